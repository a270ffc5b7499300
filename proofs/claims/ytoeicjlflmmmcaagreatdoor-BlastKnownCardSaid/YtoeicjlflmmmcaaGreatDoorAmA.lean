/- A logic of programs over abstract values: joined texts. -/
import Derived.Below
import Derived.Still
import Derived.StillTail
import Derived.OrdersIn
import Derived.RangeFuncCalls
import Derived.Laws.Strings
namespace Go.Am
open Go
inductive V where
 | any
 | int (k:IntKind) (n:Int)
 | bool (b:Bool)
 | str (s:List UInt8)
 | val (x:Value)
 | agg (l:List V)
 | tup (l:List V)
 | ptr (n v off:Nat)
 | ref (x:V) (off:Nat)
 | sl (n v off sz len:Nat) (lim:Option Nat)
 | lst (sz:Nat) (l:List V) (tight:Bool)
 | mp (n v:Nat)
 | fn (f:Fn) (first cap:List V)
 | iface (t:TypeId) (x:V)
 deriving Inhabited
def V.cells:V→List V
 | .agg l=>l
 | v=>[v]
inductive Loc where
 | nowhere
 | at (b o e:Nat)
abbrev Names:=Nat→Nat→Option Loc
abbrev Imm:=Nat→Nat→Option Value
def noNames:Names:=fun _ _=>none
def one (x:Value):Prop:=x.oneCell'=true
inductive VR (I:Imm):Names→V→Value→Prop
 | any (ρ x):VR I ρ .any x
 | int (ρ k n):VR I ρ (.int k n) (.int k n)
 | bool (ρ b):VR I ρ (.bool b) (.bool b)
 | str (ρ s):VR I ρ (.str s) (.string ⟨s.toArray⟩)
 | val (ρ x):VR I ρ (.val x) x
 | agg (ρ) (l:List V) (cs:Array Value):l.length=cs.size→(∀ (j:Nat) (v:V) (x:Value),l[j]?=some v→cs[j]?=some x→VR I ρ v x)→VR I ρ (.agg l) (.agg cs)
 | tup (ρ) (l:List V) (cs:Array Value):l.length=cs.size→(∀ (j:Nat) (v:V) (x:Value),l[j]?=some v→cs[j]?=some x→VR I ρ v x)→VR I ρ (.tup l) (.tuple cs)
 | ptr (ρ n v off b o e):ρ n v=some (.at b o e)→VR I ρ (.ptr n v off) (.pointer (some ⟨b,o+off,none⟩))
 | ref (ρ) (x:V) (off b o) (f:Nat→Value):(∀ (j:Nat) (c:V),x.cells[j]?=some c→I b (o+j)=some (f j))→(∀ (j:Nat) (c:V),x.cells[j]?=some c→VR I noNames c (f j))→VR I ρ (.ref x off) (.pointer (some ⟨b,o+off,none⟩))
 | sl (ρ n v off sz len lim b o e cap):ρ n v=some (.at b o e)→len≤cap→(∀ m,lim=some m→cap=m∧o+off+m * sz≤e)→(lim=none→o+off+cap * sz=e) →
  VR I ρ (.sl n v off sz len lim) (.slice (some ⟨b,o+off,none⟩) len cap)
 | slN (ρ n v sz lim a):ρ n v=some .nowhere→(∀ m,lim=some m→m=0)→VR I ρ (.sl n v 0 sz 0 lim) (.slice a 0 0)
 | lst (ρ sz) (l:List V) (tight b o cap) (f:Nat→Nat→Value):l≠[]→l.length≤cap→(tight=true→cap=l.length)→(∀ (j:Nat) (v:V),l[j]?=some v→v.cells.length=sz) →
  (∀ (j:Nat) (v:V),l[j]?=some v→∀ (i:Nat) (c:V),v.cells[i]?=some c→I b (o+j * sz+i)=some (f j i))→(∀ (j:Nat) (v:V),l[j]?=some v→∀ (i:Nat) (c:V),v.cells[i]?=some c→VR I noNames c (f j i)) →
  VR I ρ (.lst sz l tight) (.slice (some ⟨b,o,none⟩) l.length cap)
 | lstN (ρ sz tight a cap):(tight=true→cap=0)→VR I ρ (.lst sz [] tight) (.slice a 0 cap)
 | mp (ρ n v b o e):ρ n v=some (.at b o e)→VR I ρ (.mp n v) (.map (some b))
 | fn (ρ f) (l:List V) (cs:Array Value) (m:List V) (ds:Array Value):l.length=cs.size→m.length=ds.size→(∀ (j:Nat) (v:V) (x:Value),l[j]?=some v→cs[j]?=some x→VR I ρ v x)→(∀ (j:Nat) (v:V) (x:Value),m[j]?=some v→ds[j]?=some x→VR I ρ v x) →
  VR I ρ (.fn f l m) (.func f cs ds)
 | iface (ρ t x y):VR I ρ x y→VR I ρ (.iface t x) (.iface t y)
def Names.le (ρ ρ':Names):Prop:=∀ n v l,ρ n v=some l→ρ' n v=some l
def Imm.le (I I':Imm):Prop:=∀ b o x,I b o=some x→I' b o=some x
theorem Names.le.refl (ρ:Names):ρ.le ρ:=fun _ _ _ h=>h
theorem Names.le.trans {ρ ρ' ρ'':Names} (h:ρ.le ρ') (k:ρ'.le ρ''):ρ.le ρ'':=fun _ _ _ x=>k _ _ _ (h _ _ _ x)
theorem Imm.le.refl (I:Imm):I.le I:=fun _ _ _ h=>h
variable {I':Imm}
theorem Imm.le.trans {I I'':Imm} (h:I.le I') (k:I'.le I''):I.le I'':=fun _ _ _ x=>k _ _ _ (h _ _ _ x)
variable {x:Value}
theorem VR.mono {I:Imm} {ρ:Names} {v:V} (h:VR I ρ v x):∀ {I':Imm},I.le I'→∀ {ρ':Names},ρ.le ρ'→VR I' ρ' v x:=by
 induction h with
 | any=>intros; exact .any _ _
 | int=>intros; exact .int _ _ _
 | bool=>intros; exact .bool _ _
 | str=>intros; exact .str _ _
 | val=>intros; exact .val _ _
 | agg _ _ _ hl _ ih=>intro I' hI ρ' hρ; exact .agg _ _ _ hl fun j v x h1 h2=>ih j v x h1 h2 hI hρ
 | tup _ _ _ hl _ ih=>intro I' hI ρ' hρ; exact .tup _ _ _ hl fun j v x h1 h2=>ih j v x h1 h2 hI hρ
 | ptr _ _ _ _ _ _ _ h=>intro I' hI ρ' hρ; exact .ptr _ _ _ _ _ _ _ (hρ _ _ _ h)
 | ref _ _ _ _ _ f h1 _ ih=>intro I' hI ρ' hρ; exact .ref _ _ _ _ _ f (fun j c hc=>hI _ _ _ (h1 j c hc)) fun j c hc=>ih j c hc hI (Names.le.refl _)
 | sl _ _ _ _ _ _ _ _ _ _ _ h h1 h2 h3=>intro I' hI ρ' hρ; exact .sl _ _ _ _ _ _ _ _ _ _ _ (hρ _ _ _ h) h1 h2 h3
 | slN _ _ _ _ _ _ h h1=>intro I' hI ρ' hρ; exact .slN _ _ _ _ _ _ (hρ _ _ _ h) h1
 | lst _ _ _ _ _ _ _ f h0 h1 h2 h3 h4 _ ih=>intro I' hI ρ' hρ; exact .lst _ _ _ _ _ _ _ f h0 h1 h2 h3 (fun j v hj i c hc=>hI _ _ _ (h4 j v hj i c hc)) fun j v hj i c hc=>ih j v hj i c hc hI (Names.le.refl _)
 | lstN _ _ _ _ _ h=>intros; exact .lstN _ _ _ _ _ h
 | mp _ _ _ _ _ _ h=>intro I' hI ρ' hρ; exact .mp _ _ _ _ _ _ (hρ _ _ _ h)
 | fn _ _ _ _ _ _ h1 h2 _ _ ih1 ih2=>intro I' hI ρ' hρ; exact .fn _ _ _ _ _ _ h1 h2 (fun j v x a b=>ih1 j v x a b hI hρ) fun j v x a b=>ih2 j v x a b hI hρ
 | iface _ _ _ _ _ ih=>intro I' hI ρ' hρ; exact .iface _ _ _ _ (ih hI hρ)
inductive Ob where
 | arr (v:Nat) (T:TypeId) (cs:List V)
 | map (v:Nat) (es:List (V × V))
 | it (v nm mv cnt:Nat) (seen:List Nat)
def Ob.ver:Ob→Nat
 | .arr v _ _=>v
 | .map v _=>v
 | .it v _ _ _ _=>v
structure H where
 t:Nat
 o:List (Option Ob)
def Loc.block:Loc→Option Nat
 | .nowhere=>none
 | .at b _ _=>some b
def blk (ρ:Names) (σ:H) (n:Nat):Option Nat :=
 match σ.o[n]? with
 | some (some ob)=>(ρ n ob.ver).bind Loc.block
 | _=>none
def Clr (e lo hi:Nat):Prop:=lo=hi∨e≤lo
theorem Qny {e lo hi:Nat} (h:Clr e lo hi) (j:Nat) (hj:j<e):¬ (lo≤j∧j<hi):=by unfold Clr at h; omega
def ObR (I:Imm) (ρ:Names) (w:World) (n:Nat):Ob→Prop
 | .arr v T cs=>(ρ n v=some .nowhere∧cs=[]) ∨
  ∃ b o e c lo hi,ρ n v=some (.at b o e)∧w.heap[b]?=some (.cells c T (lo,hi))∧o+cs.length≤e∧e≤c.size∧Clr e lo hi ∧
    ∀ j v,cs[j]?=some v→∃ x,c[o+j]?=some x∧VR I ρ v x∧one x
 | .map v es=>∃ b o e c,ρ n v=some (.at b o e)∧w.heap[b]?=some (.map c c.size)∧es.length=c.size∧(∀ (i:Nat) (x:MapEntry),c[i]?=some x→x.born=i) ∧
  ∀ (j:Nat) (p:V × V) (x:MapEntry),es[j]?=some p→c[j]?=some x→VR I noNames p.1 x.key∧VR I ρ p.2 x.val
 | .it v nm mv cnt seen=>∃ b e m o' e',ρ n v=some (.at b 0 e)∧ρ nm mv=some (.at m o' e')∧w.heap[b]?=some (.mapIter (some m) cnt seen.toArray cnt)
def Gv (w:World) (g:Nat) (x:V):Prop:=0<x.cells.length∧∃ c T m,w.heap[g]?=some (.cells c T m)∧c.size=x.cells.length
structure Rel (G:Nat→Option V) (I:Imm) (ρ:Names) (σ:H) (w:World):Prop where
 objs:∀ n ob,σ.o[n]?=some (some ob)→ObR I ρ w n ob
 fresh:∀ n v l,ρ n v=some l→v<σ.t
 sep:∀ n m b,blk ρ σ n=some b→blk ρ σ m=some b→n=m
 imm:∀ b o x,I b o=some x→w.cell? ⟨b,o,none⟩=some x∧one x
 immsep:∀ n b,blk ρ σ n=some b→∀ o,I b o=none
 globs:∀ g x,G g=some x→VR I noNames (.ref x 0) (.pointer (some ⟨g,0,none⟩))∧Gv w g x
variable {w':World}
theorem Rel.globs_to {G:Nat→Option V} {I:Imm} {ρ:Names} {σ:H} {w:World} (R:Rel G I ρ σ w) (hI:I.le I') (hold:∀ b o x,I b o=some x→w'.heap[b]?=w.heap[b]?):∀ g x,G g=some x→VR I' noNames (.ref x 0) (.pointer (some ⟨g,0,none⟩))∧Gv w' g x:=by
 intro g x hg
 obtain ⟨h1,h2,c,T,m,h3,h4⟩:=R.globs g x hg
 refine ⟨h1.mono hI (Names.le.refl _),h2,c,T,m,?_,h4⟩
 generalize hp:Value.pointer (some ⟨g,0,none⟩)=p at h1
 cases h1 with
 | ref _ _ _ b o f g1 g2 =>
   cases hp
   have:=g1 0 _ (List.getElem?_eq_getElem h2)
   exact (hold _ _ _ this).trans h3
structure Ex (w w':World):Prop where
 os:w'.os=w.os
 tape:w'.tape=w.tape
 output:w'.output=w.output
 size:w.heap.size≤w'.heap.size
 old:∀ b,b<w.heap.size→w'.heap[b]?=w.heap[b]?
theorem Ex.refl (w:World):Ex w w:=⟨rfl,rfl,rfl,Nat.le_refl _,fun _ _=>rfl⟩
theorem Ex.trans {a b c:World} (h:Ex a b) (k:Ex b c):Ex a c :=
 ⟨k.os.trans h.os,k.tape.trans h.tape,k.output.trans h.output,Nat.le_trans h.size k.size,fun i hi=>(k.old i (Nat.lt_of_lt_of_le hi h.size)).trans (h.old i hi)⟩
structure Step (base:Nat) (I:Imm) (ρ:Names) (σ:H) (w:World) (I':Imm) (ρ':Names) (σ':H) (w':World):Prop where
 os:w'.os=w.os
 tape:w'.tape=w.tape
 output:w'.output=w.output
 size:w.heap.size≤w'.heap.size
 names:ρ.le ρ'
 imms:I.le I'
 tick:σ.t≤σ'.t
 newnames:∀ n v l,ρ' n v=some l→ρ n v=some l∨σ.t≤v
 keep:∀ b,b<w.heap.size→(∀ n,base≤n→blk ρ σ n≠some b)→w'.heap[b]?=w.heap[b]?
 owned:∀ n b,base≤n→blk ρ' σ' n=some b→w.heap.size≤b∨∃ m,base≤m∧blk ρ σ m=some b
 immed:∀ b o,I b o=none→I' b o≠none→w.heap.size≤b∨∃ m,base≤m∧blk ρ σ m=some b
 below:∀ n,n<base→σ'.o[n]?=σ.o[n]?∨∀ ob,σ'.o[n]?≠some (some ob)
theorem Step.refl (base:Nat) (I:Imm) (ρ:Names) (σ:H) (w:World):Step base I ρ σ w I ρ σ w :=
 ⟨rfl,rfl,rfl,Nat.le_refl _,.refl _,.refl _,Nat.le_refl _,fun _ _ _ h=>.inl h,fun _ _ _=>rfl,fun n b hn h=>.inr ⟨n,hn,h⟩,fun b o h h'=>absurd h h',fun _ _=>.inl rfl⟩
theorem Step.trans {base:Nat} {I I' I'':Imm} {ρ ρ' ρ'':Names} {σ σ' σ'':H} {w w' w'':World}
 (h:Step base I ρ σ w I' ρ' σ' w') (k:Step base I' ρ' σ' w' I'' ρ'' σ'' w''):Step base I ρ σ w I'' ρ'' σ'' w'' where
 os:=k.os.trans h.os
 tape:=k.tape.trans h.tape
 output:=k.output.trans h.output
 size:=Nat.le_trans h.size k.size
 names:=h.names.trans k.names
 imms:=h.imms.trans k.imms
 tick:=Nat.le_trans h.tick k.tick
 newnames:=fun n v l hl=>(k.newnames n v l hl).elim (fun x=>h.newnames n v l x) (fun x=>.inr (Nat.le_trans h.tick x))
 keep:=fun b hb hn=>(k.keep b (Nat.lt_of_lt_of_le hb h.size) fun n hn' e=>(h.owned n b hn' e).elim (fun x=>by omega) fun ⟨m,hm,e'⟩=>hn m hm e').trans (h.keep b hb hn)
 owned:=fun n b hn e=>(k.owned n b hn e).elim (fun x=>.inl (Nat.le_trans h.size x)) fun ⟨m,hm,e'⟩=>h.owned m b hm e'
 immed:=fun b o hI hI''=>by
  by_cases hI':I' b o=none
  ·exact (k.immed b o hI' hI'').elim (fun x=>.inl (Nat.le_trans h.size x)) fun ⟨m,hm,e'⟩=>h.owned m b hm e'
  ·exact h.immed b o hI hI'
 below:=fun n hn=>by
  rcases k.below n hn with e | e
  ·rcases h.below n hn with e' | e'
   ·exact .inl (e.trans e')
   ·exact .inr fun ob x=>e' ob (e▸x)
  ·exact .inr e
variable {b j i l off sz:Nat}
theorem Qdl {G I ρ σ w} (h:Rel G I ρ σ w) {n:Nat} (e:blk ρ σ n=some b):b<w.heap.size:=by
 unfold blk at e
 split at e
 ·rename_i ob ho
  have hr:=h.objs n ob ho
  cases ob with
  | arr v T cs =>
    rcases hr with ⟨hv,_⟩ | ⟨b',o,e',c,lo,hi,hv,hc,_⟩
    ·simp [Ob.ver,hv,Loc.block] at e
    ·simp [Ob.ver,hv,Loc.block] at e
     subst e
     exact (Array.getElem?_eq_some_iff.1 hc).1
  | map v es =>
    obtain ⟨b',o,e',c,hv,hc,_⟩:=hr
    simp [Ob.ver,hv,Loc.block] at e
    subst e
    exact (Array.getElem?_eq_some_iff.1 hc).1
  | it v nm mv cnt seen =>
    obtain ⟨b',e',m,o2,e2,hv,_,hc⟩:=hr
    simp [Ob.ver,hv,Loc.block] at e
    subst e
    exact (Array.getElem?_eq_some_iff.1 hc).1
 ·cases e
theorem ObR.of_block {I ρ} {w:World} {n:Nat} {ob:Ob} (h:ObR I ρ w n ob) (hk:∀ b,(ρ n ob.ver).bind Loc.block=some b→w'.heap[b]?=w.heap[b]?):ObR I ρ w' n ob:=by
 cases ob with
 | arr v T cs =>
   rcases h with h | ⟨b,o,e,c,lo,hi,hv,hc,rest⟩
   ·exact .inl h
   ·exact .inr ⟨b,o,e,c,lo,hi,hv,(hk b (by simp [Ob.ver,hv,Loc.block])).trans hc,rest⟩
 | map v es =>
   obtain ⟨b,o,e,c,hv,hc,rest⟩:=h
   exact ⟨b,o,e,c,hv,(hk b (by simp [Ob.ver,hv,Loc.block])).trans hc,rest⟩
 | it v nm mv cnt seen =>
   obtain ⟨b,e,m,o2,e2,hv,h2,hc⟩:=h
   exact ⟨b,e,m,o2,e2,hv,h2,(hk b (by simp [Ob.ver,hv,Loc.block])).trans hc⟩
theorem ObR.mono {I I' ρ ρ'} {w:World} {n:Nat} {ob:Ob} (h:ObR I ρ w n ob) (hI:I.le I') (hρ:ρ.le ρ'):ObR I' ρ' w n ob:=by
 cases ob with
 | arr v T cs =>
   rcases h with ⟨h1,h2⟩ | ⟨b,o,e,c,lo,hi,hv,hc,h1,h2,h3,h4⟩
   ·exact .inl ⟨hρ _ _ _ h1,h2⟩
   ·exact .inr ⟨b,o,e,c,lo,hi,hρ _ _ _ hv,hc,h1,h2,h3,fun j v hj=>let ⟨x,a,b,d⟩:=h4 j v hj; ⟨x,a,b.mono hI hρ,d⟩⟩
 | map v es =>
   obtain ⟨b,o,e,c,hv,hc,h1,h2,h4⟩:=h
   exact ⟨b,o,e,c,hρ _ _ _ hv,hc,h1,h2,fun j p x hj hx=>⟨(h4 j p x hj hx).1.mono hI (Names.le.refl _),(h4 j p x hj hx).2.mono hI hρ⟩⟩
 | it v nm mv cnt seen =>
   obtain ⟨b,e,m,o2,e2,hv,h2,hc⟩:=h
   exact ⟨b,e,m,o2,e2,hρ _ _ _ hv,hρ _ _ _ h2,hc⟩
theorem Qfx {w:World} {a:Addr} (h:w'.heap[a.block]?=w.heap[a.block]?):w'.cell? a=w.cell? a:=by simp [World.cell?,h]
theorem block_lt_of_cell {w:World} {a:Addr} (h:w.cell? a=some x):a.block<w.heap.size:=by
 unfold World.cell? at h
 split at h
 ·rename_i hc
  exact (Array.getElem?_eq_some_iff.1 hc).1
 ·cases h
theorem Rel.ex {G I ρ σ} {w:World} (h:Rel G I ρ σ w) (k:Ex w w'):Rel G I ρ σ w' where
 objs:=fun n ob ho=>(h.objs n ob ho).of_block fun b hb=>k.old b (Qdl h (n:=n) (by simp [blk,ho,hb]))
 fresh:=h.fresh
 sep:=h.sep
 imm:=fun b o x hx=>by
  have hc:=(h.imm b o x hx).1
  have hb:=block_lt_of_cell hc
  exact ⟨(Qfx (k.old b hb)).trans hc,(h.imm b o x hx).2⟩
 immsep:=h.immsep
 globs:=h.globs_to (Imm.le.refl _) fun b o x hx=>k.old b (block_lt_of_cell (h.imm b o x hx).1)
theorem Step.of_ex {base I ρ σ} {w:World} (k:Ex w w'):Step base I ρ σ w I ρ σ w' :=
 ⟨k.os,k.tape,k.output,k.size,.refl _,.refl _,Nat.le_refl _,fun _ _ _ h=>.inl h,fun b hb _=>k.old b hb,fun n b hn h=>.inr ⟨n,hn,h⟩,fun b o h h'=>absurd h h',fun _ _=>.inl rfl⟩
structure Sg where
 c:Nat→Nat→Prop
 m:Nat→Prop
def Sg.le (S S':Sg):Prop:=(∀ b o,S.c b o→S'.c b o)∧∀ b,S.m b→S'.m b
theorem Sg.le.refl (S:Sg):S.le S:=⟨fun _ _ h=>h,fun _ h=>h⟩
variable {S':Sg}
theorem Sg.le.trans {S S'':Sg} (h:S.le S') (k:S'.le S''):S.le S'':=⟨fun _ _ x=>k.1 _ _ (h.1 _ _ x),fun _ x=>k.2 _ (h.2 _ x)⟩
structure Ek (S:Sg) (w w':World):Prop where
 os:w'.os=w.os
 tape:w'.tape=w.tape
 output:w'.output=w.output
 size:w.heap.size≤w'.heap.size
 cells:∀ b o,S.c b o→w'.cell? ⟨b,o,none⟩=w.cell? ⟨b,o,none⟩
 blocks:∀ b,S.m b→w'.heap[b]?=w.heap[b]?
theorem Ek.refl (S:Sg) (w:World):Ek S w w:=⟨rfl,rfl,rfl,Nat.le_refl _,fun _ _ _=>rfl,fun _ _=>rfl⟩
theorem Ek.trans {S:Sg} {a b c:World} (h:Ek S a b) (k:Ek S b c):Ek S a c :=
 ⟨k.os.trans h.os,k.tape.trans h.tape,k.output.trans h.output,Nat.le_trans h.size k.size,fun b o hs=>(k.cells b o hs).trans (h.cells b o hs),fun b hs=>(k.blocks b hs).trans (h.blocks b hs)⟩
theorem Ek.anti {S:Sg} {w:World} (h:Ek S' w w') (k:S.le S'):Ek S w w':=⟨h.os,h.tape,h.output,h.size,fun b o hs=>h.cells b o (k.1 _ _ hs),fun b hs=>h.blocks b (k.2 _ hs)⟩
def QaS (I:Imm) (ρ:Names) (σ:H):Sg where
 c:=fun b o=>(∃ x,I b o=some x)∨∃ n v T cs o0 e,σ.o[n]?=some (some (.arr v T cs))∧ρ n v=some (.at b o0 e)∧o0≤o∧o<o0+cs.length
 m:=fun b=>∃ n ob,σ.o[n]?=some (some ob)∧(∀ v T cs,ob≠.arr v T cs)∧(ρ n ob.ver).bind Loc.block=some b
structure Guard (S:Sg) (I:Imm) (ρ:Names) (σ:H) (w:World):Prop where
 all:(QaS I ρ σ).le S
 room:∀ n v T cs b o0 e,σ.o[n]?=some (some (.arr v T cs))→ρ n v=some (.at b o0 e)→∀ o,o0+cs.length≤o→o<e→¬ S.c b o
 rows:∀ n v T cs b o0 e,σ.o[n]?=some (some (.arr v T cs))→ρ n v=some (.at b o0 e)→¬ S.m b
 lt:(∀ b o,S.c b o→b<w.heap.size)∧∀ b,S.m b→b<w.heap.size
theorem Ek.of_ex {S:Sg} {I ρ σ} {w:World} (g:Guard S I ρ σ w) (k:Ex w w'):Ek S w w' :=
 ⟨k.os,k.tape,k.output,k.size,fun b o hs=>Qfx (k.old b (g.lt.1 b o hs)),fun b hs=>k.old b (g.lt.2 b hs)⟩
theorem Qyk {G I ρ σ w} (R:Rel G I ρ σ w):(∀ b o,(QaS I ρ σ).c b o→b<w.heap.size)∧∀ b,(QaS I ρ σ).m b→b<w.heap.size:=by
 refine ⟨fun b o h=>?_,fun b h=>?_⟩
 ·rcases h with ⟨x,hx⟩ | ⟨n,v,T,cs,o0,e,h1,h2,_⟩
  ·exact block_lt_of_cell (R.imm b o x hx).1
  ·exact Qdl R (n:=n) (by simp [blk,h1,Ob.ver,h2,Loc.block])
 ·obtain ⟨n,ob,h1,_,h2⟩:=h
  exact Qdl R (n:=n) (by simp [blk,h1,h2])
theorem Qjh {I ρ σ n v es b o e} (ho:σ.o[n]?=some (some (.map v es))) (hn:ρ n v=some (.at b o e)):(QaS I ρ σ).m b :=
 ⟨n,_,ho,fun _ _ _ h=>(nomatch h),by simp [Ob.ver,hn,Loc.block]⟩
theorem Guard.start {G I ρ σ w} (R:Rel G I ρ σ w):Guard (QaS I ρ σ) I ρ σ w:=by
 refine ⟨Sg.le.refl _,fun n v T cs b o0 e h1 h2 o ho he hc=>?_,fun n v T cs b o0 e h1 h2 hm=>?_,Qyk R⟩
 ·have hb:blk ρ σ n=some b:=by simp [blk,h1,Ob.ver,h2,Loc.block]
  rcases hc with ⟨x,hx⟩ | ⟨m,v',T',cs',o0',e',g1,g2,g3,g4⟩
  ·rw [R.immsep n b hb] at hx; cases hx
  ·have hb':blk ρ σ m=some b:=by simp [blk,g1,Ob.ver,g2,Loc.block]
   have:=R.sep n m b hb hb'
   subst this
   rw [h1] at g1; cases g1
   rw [h2] at g2; cases g2
   omega
 ·have hb:blk ρ σ n=some b:=by simp [blk,h1,Ob.ver,h2,Loc.block]
  obtain ⟨m,ob,g1,g2,g3⟩:=hm
  have hb':blk ρ σ m=some b:=by simp [blk,g1,g3]
  have:=R.sep n m b hb hb'
  subst this
  rw [h1] at g1; cases g1
  exact g2 _ _ _ rfl
def Sg.join (S S':Sg):Sg:=⟨fun b o=>S.c b o∨S'.c b o,fun b=>S.m b∨S'.m b⟩
def op1 (P:Program) (o:Oper) (a:Act) (w:World) (K:Act→World→Prop):Prop :=
 match (execOp a.eval o).run P w with
 | .ok (.value v) w'=>K (a.put o.dst v) w'
 | .ok .skip w'=>K (a.put o.dst undef) w'
 | .ok (.enter f args) w'=>Calls P f args w' fun e w''=>∃ v,e=.returned v∧K (a.put o.dst v) w''
 | _=>False
theorem op1.mono {P o a w} {K K':Act→World→Prop} (h:op1 P o a w K) (k:∀ a w,K a w→K' a w):op1 P o a w K':=by
 unfold op1 at *
 split at h
 ·exact k _ _ h
 ·exact k _ _ h
 ·exact h.mono fun e w'' ⟨v,he,hv⟩=>⟨v,he,k _ _ hv⟩
 ·exact h.elim
theorem op1.wp {P o a w} {K:Act→World→Prop} {Q:Exit→Act→World→Prop} (h:op1 P o a w K):o.wp P a w K Q:=by
 unfold op1 at h
 unfold Oper.wp
 split at h
 ·rename_i e; rw [e]; exact h
 ·rename_i e; rw [e]; exact h
 ·rename_i e; rw [e]; exact h.mono fun e w'' ⟨v,he,hv⟩=>by subst he; exact hv
 ·exact h.elim
def opN (P:Program) (ops:Array Oper) (i:Nat) (a:Act) (w:World) (K:Act→World→Prop):Prop :=
 ∃ o,ops[i]?=some o∧if Region.wanted o (yielded ops a.tmps) then op1 P o a w K else K (a.put o.dst undef) w
theorem opN.mono {P ops i a w} {K K':Act→World→Prop} (h:opN P ops i a w K) (k:∀ a w,K a w→K' a w):opN P ops i a w K':=by
 obtain ⟨o,ho,h⟩:=h
 refine ⟨o,ho,?_⟩
 split
 ·rename_i hw; rw [if_pos hw] at h; exact h.mono k
 ·rename_i hw; rw [if_neg hw] at h; exact k _ _ h
theorem opN.wpOp {P ops i a w} {K:Act→World→Prop} {Q:Exit→Act→World→Prop} (h:opN P ops i a w K):Go.wpOp P ops Q i K a w:=by
 obtain ⟨o,ho,h⟩:=h
 unfold Go.wpOp
 simp only [ho]
 split
 ·rename_i hw; rw [if_pos hw] at h; exact .inl h.wp
 ·rename_i hw; rw [if_neg hw] at h; exact h
def Reads (S:Sg) (P:Program) (ops:Array Oper) (o:Oper) (a:Act) (w:World) (v:Value):Prop :=
 (Region.wanted o (yielded ops a.tmps)=true∧∀ w',Ek S w w'→(execOp a.eval o).run P w'=.ok (.value v) w') ∨
 (Region.wanted o (yielded ops a.tmps)=false∧v=undef)
theorem Reads.ex {S P ops o a w w' v} (h:Reads S P ops o a w v) (k:Ek S w w'):Reads S P ops o a w' v :=
 h.imp (fun ⟨x,y⟩=>⟨x,fun w'' hk=>y w'' (k.trans hk)⟩) id
structure SZ where
 s:Sg
 z:Sg
variable {K Q:Act→World→Prop}
theorem Reads.opN {S P ops i a w v o} (ho:ops[i]?=some o) (h:Reads S P ops o a w v) (k:K (a.put o.dst v) w):opN P ops i a w K:=by
 refine ⟨o,ho,?_⟩
 rcases h with ⟨hw,hv⟩ | ⟨hw,rfl⟩
 ·rw [if_pos hw]
  simp only [op1,hv w (Ek.refl S w)]
  exact k
 ·rw [if_neg (by simp [hw])]
  exact k
inductive Tr where
 | done
 | rd (i:Nat) (t:Tr)
 | pu (i:Nat) (t:Tr)
 | op (i:Nat) (k:Bool) (t:Tr)
 | alt (s t:Tr)
def RTree (P:Program) (ops:Array Oper) (Q:Act→World→Prop):Tr→SZ→Act→World→Prop
 | .done,_,a,w=>Q a w
 | .rd i t,S,a,w=>∃ o v,ops[i]?=some o∧Reads S.s P ops o a w v∧RTree P ops Q t S (a.put o.dst v) w
 | .pu i t,S,a,w=>∃ o v,ops[i]?=some o∧Reads S.z P ops o a w v∧RTree P ops Q t S (a.put o.dst v) w
 | .op i k t,S,a,w=>opN P ops i a w fun a' w'=>∃ S':SZ,(S.z.le S'.z∧Ek S.z w w')∧(k=true→S.s.le S'.s∧Ek S.s w w')∧RTree P ops Q t S' a' w'
 | .alt s t,S,a,w=>RTree P ops Q s S a w∧RTree P ops Q t S a w
def seqB:Nat→Nat→Tr→Bool
 | k,0,.done=>true
 | k,n+1,.rd i t=>i==k&&seqB (k+1) n t
 | k,n+1,.op i _ t=>i==k&&seqB (k+1) n t
 | _,_,_=>false
variable {Q':Exit→Act→World→Prop}
theorem RTree.seq {P ops} (hQ:∀ a w,Q a w→Q' .normal a w):∀ (n k:Nat) (t:Tr) (S:SZ) (a:Act) (w:World),seqB k n t=true→RTree P ops Q t S a w→wpOps P ops Q' (List.range' k n) a w:=by
 intro n
 induction n with
 | zero =>
   intro k t S a w hs h
   cases t <;> simp [seqB] at hs
   exact hQ _ _ h
 | succ n ih =>
   intro k t S a w hs h
   rw [List.range'_succ,wpOps_cons]
   cases t with
   | done=>simp [seqB] at hs
   | alt=>simp [seqB] at hs
   | pu=>simp [seqB] at hs
   | rd i t =>
     simp only [seqB,Bool.and_eq_true,beq_iff_eq] at hs
     obtain ⟨rfl,hs⟩:=hs
     obtain ⟨o,v,ho,hr,ht⟩:=h
     exact (hr.opN (K:=fun a w=>wpOps P ops Q' (List.range' (i+1) n) a w) ho (ih _ _ _ _ _ hs ht)).wpOp
   | op i c t =>
     simp only [seqB,Bool.and_eq_true,beq_iff_eq] at hs
     obtain ⟨rfl,hs⟩:=hs
     exact (opN.mono h fun a w ⟨_,_,_,x⟩=>ih _ _ _ _ _ hs x).wpOp
def anyR (P:Program) (ops:Array Oper) (kd:Nat→Nat) (Q:Act→World→Prop):Nat→Array Bool→SZ→Act→World→Prop
 | 0,listed,_,a,w=>Region.ready .any ops listed=[]∧Q a w
 | f+1,listed,S,a,w=>(Region.ready .any ops listed=[]→Q a w) ∧
   ∀ i∈Region.ready .any ops listed,opN P ops i a w fun a' w'=>∃ S':SZ,(S.z.le S'.z∧Ek S.z w w')∧(kd i≠2→S.s.le S'.s∧Ek S.s w w')∧anyR P ops kd Q f (listed.setIfInBounds i true) S' a' w'
theorem anyR.wpAny {P ops kd} {Q:Act→World→Prop} {Q':Exit→Act→World→Prop} (hQ:∀ a w,Q a w→Q' .normal a w) :
 ∀ (f:Nat) (listed:Array Bool) (S:SZ) (a:Act) (w:World),anyR P ops kd Q f listed S a w→Go.wpAny P .any ops Q' f listed a w
 | 0,_,_,_,_,h=>⟨h.1,hQ _ _ h.2⟩
 | f+1,_,_,_,_,h=>⟨fun e=>hQ _ _ (h.1 e),fun i hi=>(opN.mono (h.2 i hi) fun a w ⟨_,_,_,x⟩=>anyR.wpAny hQ f _ _ _ _ x).wpOp⟩
inductive QnG (ops:Array Oper):Nat→Nat→Prop
 | dir {j i:Nat} {o:Oper} {e:Edge}:ops[j]?=some o→e∈o.after→Region.binds .any e=true→e.on=i→QnG ops j i
 | trans {j k i:Nat} {o:Oper} {e:Edge}:ops[j]?=some o→e∈o.after→Region.binds .any e=true→e.on=k→QnG ops k i→QnG ops j i
def Qq1 (t:Array Nat) (o:Oper):Nat:=o.after.toList.foldl (fun m e=>if Region.binds .any e then m ||| ((1 <<< e.on) ||| t.getD e.on 0) else m) 0
def QmV:List Oper→Array Nat→Array Nat
 | [],t=>t
 | o::r,t=>QmV r (t.push (Qq1 t o))
def QkG (T:Array Nat) (j i:Nat):Bool:=(T.getD j 0).testBit i
def TabW (ops:Array Oper) (t:Array Nat):Prop:=∀ j i,QkG t j i=true→QnG ops j i
variable {ops:Array Oper}
theorem QtP {t:Array Nat} (ht:TabW ops t) {o:Oper} (ho:ops[j]?=some o):∀ i,(Qq1 t o).testBit i=true→QnG ops j i:=by
 unfold Qq1
 have key:∀ (l:List Edge) (m:Nat),(∀ e∈l,e∈o.after)→(∀ i,m.testBit i=true→QnG ops j i)→∀ i,(l.foldl (fun m e=>if Region.binds .any e then m ||| ((1 <<< e.on) ||| t.getD e.on 0) else m) m).testBit i=true→QnG ops j i:=by
  intro l
  induction l with
  | nil=>intro m _ hm i hi; exact hm i hi
  | cons e l ih =>
    intro m hl hm i hi
    refine ih _ (fun e' he'=>hl e' (List.mem_cons_of_mem _ he')) (fun i' hi'=>?_) i hi
    dsimp only at hi'
    split at hi'
    ·rename_i hb
     rw [Nat.testBit_or,Nat.testBit_or,Nat.shiftLeft_eq,Nat.one_mul,Nat.testBit_two_pow] at hi'
     simp only [Bool.or_eq_true,decide_eq_true_eq] at hi'
     rcases hi' with h | h | h
     ·exact hm _ h
     ·exact .dir ho (hl e (List.mem_cons_self ..)) hb h
     ·exact .trans ho (hl e (List.mem_cons_self ..)) hb rfl (ht _ _ h)
    ·exact hm _ hi'
 exact key o.after.toList 0 (fun e he=>by simpa using he) (fun i hi=>by simp at hi)
theorem Qiz {ops:Array Oper}:∀ (l:List Oper) (t:Array Nat),ops.toList.drop t.size=l→TabW ops t→TabW ops (QmV l t)
 | [],t,_,ht=>ht
 | o::r,t,hl,ht=>by
   have ho:ops[t.size]?=some o:=by
    have:=congrArg (fun l=>l[0]?) hl
    simpa using this
   refine Qiz r _ ?_ fun j i h=>?_
   ·have:=congrArg List.tail hl
    simpa using this
   ·unfold QkG at h
    by_cases hj:j=t.size
    ·subst hj
     refine QtP ht ho i ?_
     simpa using h
    ·refine ht j i ?_
     unfold QkG
     rw [Array.getD_eq_getD_getElem?] at h ⊢
     rwa [Array.getElem?_push,if_neg hj] at h
def Closed (ops:Array Oper) (listed:Array Bool):Prop:=∀ (j:Nat) (o:Oper),ops[j]?=some o→listed.getD j false=true→∀ e∈o.after,Region.binds .any e=true→listed.getD e.on false=true
theorem getD_set_true {l:Array Bool} (h:l.getD j false=true):(l.setIfInBounds i true).getD j false=true:=by
 rw [Array.getD_eq_getD_getElem?] at h ⊢
 rw [Array.getElem?_setIfInBounds]
 split
 ·split
  ·rfl
  ·rename_i h1 h2; subst h1; rw [Array.getElem?_eq_none (by omega)] at h; simp at h
 ·exact h
variable {listed A:Array Bool}
theorem Closed.set (h:Closed ops listed) (hi:i∈Region.ready .any ops listed):Closed ops (listed.setIfInBounds i true):=fun j o ho hj e he hb=>by
 by_cases hji:j=i
 ·subst hji
  obtain ⟨_,o',ho',hall⟩:=mem_ready.1 hi
  cases ho.symm.trans ho'
  exact getD_set_true (hall e he hb)
 ·refine getD_set_true (h j o ho ?_ e he hb)
  rw [getD_set_ne false (Ne.symm hji)] at hj
  exact hj
theorem Closed.waits (h:Closed ops listed) (hw:QnG ops j i):listed.getD j false=true→listed.getD i false=true:=by
 induction hw with
 | dir ho he hb hi=>intro hj; exact hi▸h _ _ ho hj _ he hb
 | trans ho he hb hk _ ih=>intro hj; exact ih (hk▸h _ _ ho hj _ he hb)
theorem Closed.ready (h:Closed ops listed) (hw:QnG ops j i) (hj:j∈Region.ready .any ops listed):listed.getD i false=true:=by
 obtain ⟨_,o',ho',hall⟩:=mem_ready.1 hj
 cases hw with
 | dir ho he hb hi=>cases ho.symm.trans ho'; exact hi▸hall _ he hb
 | trans ho he hb hk hw=>cases ho.symm.trans ho'; exact h.waits hw (hk▸hall _ he hb)
def QsP (ops:Array Oper) (T:Array Nat) (kd:Nat→Nat):Bool :=
 (List.range ops.size).all fun j=>kd j != 2 || (List.range ops.size).all fun i=>kd i != 0 || i==j || QkG T j i || QkG T i j
variable {oi oj:Oper}
theorem QKU {P} {v:Value} (hap:oi.apart ops oj=true) (hsj:∀ cs b,oj.op≠.select cs b) {a:Act} {w:World}
 (h:op1 P oj (a.put oi.dst v) w K):op1 P oj a w fun a' w'=>K (a'.put oi.dst v) w':=by
 obtain ⟨h1,h2,h3⟩:=Oper.apart_spec hap
 unfold op1 at *
 rw [execOp_put oj hsj a oi.dst v h1] at h
 have hc:∀ u,(a.put oi.dst v).put oj.dst u=(a.put oj.dst u).put oi.dst v:=fun u=>Act.put_comm a v u h2
 generalize (execOp a.eval oj).run P w=r at *
 cases r with
 | ok n w' =>
   cases n <;> simp only at h ⊢
   case value u=>rw [← hc]; exact h
   case skip=>rw [← hc]; exact h
   case enter f args=>exact h.mono fun e w'' ⟨u,he,hu⟩=>⟨u,he,by rw [← hc]; exact hu⟩
 | halt x w'=>exact h.elim
theorem Qw4 {P} {v:Value} (hj:ops[j]?=some oj) (hap:oi.apart ops oj=true) (hsj:∀ cs b,oj.op≠.select cs b) {a:Act} {w:World}
 (h:opN P ops j (a.put oi.dst v) w K):opN P ops j a w fun a' w'=>K (a'.put oi.dst v) w':=by
 obtain ⟨h1,h2,h3⟩:=Oper.apart_spec hap
 obtain ⟨o,ho,h⟩:=h
 have:o=oj:=Option.some.inj (ho.symm.trans hj)
 subst this
 refine ⟨o,hj,?_⟩
 rw [wanted_put o a oi.dst v h1] at h
 split
 ·rename_i hw; rw [if_pos hw] at h; exact QKU hap hsj h
 ·rename_i hw; rw [if_neg hw] at h; rw [← Act.put_comm a v undef h2]; exact h
theorem Reads.put {S P} {v u:Value} (hap:oi.apart ops oj=true) (hsi:∀ cs b,oi.op≠.select cs b) {a:Act} {w:World} (h:Reads S P ops oi a w v):Reads S P ops oi (a.put oj.dst u) w v:=by
 obtain ⟨h1,h2,h3⟩:=Oper.apart_spec hap
 unfold Reads at *
 rw [execOp_put oi hsi a oj.dst u h3,wanted_put oi a oj.dst u h3]
 exact h
theorem Qw6 {P} (hj:ops[j]?=some oj) {a:Act} {w:World} (h:opN P ops j a w K) :
 opN P ops j a w fun a' w'=>(∃ u,a'=a.put oj.dst u)∧K a' w':=by
 obtain ⟨o,ho,h⟩:=h
 have:o=oj:=Option.some.inj (ho.symm.trans hj)
 subst this
 refine ⟨o,hj,?_⟩
 split
 ·rename_i hw
  rw [if_pos hw] at h
  unfold op1 at *
  split at h
  ·exact ⟨⟨_,rfl⟩,h⟩
  ·exact ⟨⟨_,rfl⟩,h⟩
  ·exact h.mono fun e w'' ⟨v,he,hv⟩=>⟨v,he,⟨_,rfl⟩,hv⟩
  ·exact h.elim
 ·rename_i hw; rw [if_neg hw] at h; exact ⟨⟨_,rfl⟩,h⟩
variable {T:Array Nat}
theorem QuJ {P ops kd} {v:Value} (hi:ops[i]?=some oi) (hki:kd i=0) (hT:TabW ops T) (hsink:QsP ops T kd=true)
 (hsel:∀ (j:Nat) (o:Oper) cs b,ops[j]?=some o→o.op≠.select cs b) :
 ∀ (f:Nat) (listed:Array Bool) (S s:SZ) (a:Act) (w:World),Closed ops listed→S.s.le s.s →
   (∀ j oj,ops[j]?=some oj→j≠i→listed.getD j true=false→(∀ e∈oj.after,Region.binds .any e=true→e.on≠i)→oi.apart ops oj=true) →
   i∈Region.ready .any ops listed→Reads S.s P ops oi a w v →
   anyR P ops kd Q f (listed.setIfInBounds i true) s (a.put oi.dst v) w→anyR P ops kd Q (f+1) listed s a w:=by
 intro f
 have hwait:∀ (listed:Array Bool) (j:Nat),Closed ops listed→i∈Region.ready .any ops listed→j∈Region.ready .any ops listed→j≠i→kd j≠2:=by
  intro listed j hcl hr hj hji hk
  have hjs:j<ops.size:=by
   obtain ⟨_,oj,hoj,_⟩:=mem_ready.1 hj
   exact (Array.getElem?_eq_some_iff.1 hoj).1
  have his:i<ops.size:=(Array.getElem?_eq_some_iff.1 hi).1
  have h1:=List.all_eq_true.1 hsink j (List.mem_range.2 hjs)
  simp only [hk,bne_self_eq_false,Bool.false_or] at h1
  have h2:=List.all_eq_true.1 h1 i (List.mem_range.2 his)
  simp only [hki,bne_self_eq_false,Bool.false_or,Bool.or_eq_true,beq_iff_eq] at h2
  rcases h2 with (h2 | h2) | h2
  ·exact hji h2.symm
  ·have h3:=hcl.ready (hT _ _ h2) hj
   have h4:=(mem_ready.1 hr).1
   rcases Nat.lt_or_ge i listed.size with h' | h'
   ·simp [h'] at h3 h4; rw [h4] at h3; cases h3
   ·simp [Array.getElem?_eq_none h'] at h3
  ·have h3:=hcl.ready (hT _ _ h2) hr
   have h4:=(mem_ready.1 hj).1
   rcases Nat.lt_or_ge j listed.size with h' | h'
   ·simp [h'] at h3 h4; rw [h4] at h3; cases h3
   ·simp [Array.getElem?_eq_none h'] at h3
 induction f with
 | zero =>
   intro listed S s a w hcl hSs _ hr hy H
   refine ⟨fun h=>(by rw [h] at hr; cases hr),fun j hj=>?_⟩
   by_cases hji:j=i
   ·subst hji; exact hy.opN hi ⟨s,⟨Sg.le.refl _,Ek.refl _ w⟩,fun _=>⟨Sg.le.refl _,Ek.refl _ w⟩,H⟩
   ·have:=ready_mono hj hji
    rw [H.1] at this
    cases this
 | succ f ih =>
   intro listed S s a w hcl hSs hfree hr hy H
   refine ⟨fun h=>(by rw [h] at hr; cases hr),fun j hj=>?_⟩
   by_cases hji:j=i
   ·subst hji; exact hy.opN hi ⟨s,⟨Sg.le.refl _,Ek.refl _ w⟩,fun _=>⟨Sg.le.refl _,Ek.refl _ w⟩,H⟩
   ·have hk2:=hwait listed j hcl hr hj hji
    have h1:=H.2 j (ready_mono hj hji)
    obtain ⟨hjun,oj,hoj,hall⟩:=mem_ready.1 hj
    have hnot:∀ e∈oj.after,Region.binds .any e=true→e.on≠i:=fun e he hb heq=>by
     have h1:=hall e he hb
     have h0:=(mem_ready.1 hr).1
     rw [heq] at h1
     rcases Nat.lt_or_ge i listed.size with h' | h'
     ·simp [h'] at h0 h1; rw [h0] at h1; cases h1
     ·simp [Array.getElem?_eq_none h'] at h1
    have hap:=hfree j oj hoj hji hjun hnot
    have h2:=Qw6 hoj (Qw4 hoj hap (fun cs b=>hsel j oj cs b hoj) h1)
    have hfree':∀ k ok,ops[k]?=some ok→k≠i→(listed.setIfInBounds j true).getD k true=false →
     (∀ e∈ok.after,Region.binds .any e=true→e.on≠i)→oi.apart ops ok=true:=fun k ok hk hki hun hno=>by
     refine hfree k ok hk hki ?_ hno
     by_cases hjk:j=k
     ·subst hjk; exact hjun
     ·rw [getD_set_ne true hjk] at hun; exact hun
    refine h2.mono fun a' w' ⟨⟨u,ha'⟩,s',hZ,hEx,h3⟩=>⟨s',hZ,hEx,ih (listed.setIfInBounds j true) S s' a' w' (hcl.set hj) (hSs.trans (hEx hk2).1) hfree' (ready_mono hr (Ne.symm hji)) ?_ ?_⟩
    ·rw [ha']; exact (hy.ex ((hEx hk2).2.anti hSs)).put hap (fun cs b=>hsel i oi cs b hi)
    ·rw [Array.setIfInBounds_comm _ _ hji]; exact h3
theorem QyF {P ops kd} {v:Value} (hi:ops[i]?=some oi) (hsel:∀ (j:Nat) (o:Oper) cs b,ops[j]?=some o→o.op≠.select cs b) :
 ∀ (f:Nat) (listed:Array Bool) (S s:SZ) (a:Act) (w:World),S.z.le s.z →
   (∀ j oj,ops[j]?=some oj→j≠i→listed.getD j true=false→(∀ e∈oj.after,Region.binds .any e=true→e.on≠i)→oi.apart ops oj=true) →
   i∈Region.ready .any ops listed→Reads S.z P ops oi a w v →
   anyR P ops kd Q f (listed.setIfInBounds i true) s (a.put oi.dst v) w→anyR P ops kd Q (f+1) listed s a w:=by
 intro f
 induction f with
 | zero =>
   intro listed S s a w hSs _ hr hy H
   refine ⟨fun h=>(by rw [h] at hr; cases hr),fun j hj=>?_⟩
   by_cases hji:j=i
   ·subst hji; exact hy.opN hi ⟨s,⟨Sg.le.refl _,Ek.refl _ w⟩,fun _=>⟨Sg.le.refl _,Ek.refl _ w⟩,H⟩
   ·have:=ready_mono hj hji
    rw [H.1] at this
    cases this
 | succ f ih =>
   intro listed S s a w hSs hfree hr hy H
   refine ⟨fun h=>(by rw [h] at hr; cases hr),fun j hj=>?_⟩
   by_cases hji:j=i
   ·subst hji; exact hy.opN hi ⟨s,⟨Sg.le.refl _,Ek.refl _ w⟩,fun _=>⟨Sg.le.refl _,Ek.refl _ w⟩,H⟩
   ·have h1:=H.2 j (ready_mono hj hji)
    obtain ⟨hjun,oj,hoj,hall⟩:=mem_ready.1 hj
    have hnot:∀ e∈oj.after,Region.binds .any e=true→e.on≠i:=fun e he hb heq=>by
     have h1:=hall e he hb
     have h0:=(mem_ready.1 hr).1
     rw [heq] at h1
     rcases Nat.lt_or_ge i listed.size with h' | h'
     ·simp [h'] at h0 h1; rw [h0] at h1; cases h1
     ·simp [Array.getElem?_eq_none h'] at h1
    have hap:=hfree j oj hoj hji hjun hnot
    have h2:=Qw6 hoj (Qw4 hoj hap (fun cs b=>hsel j oj cs b hoj) h1)
    have hfree':∀ k ok,ops[k]?=some ok→k≠i→(listed.setIfInBounds j true).getD k true=false →
     (∀ e∈ok.after,Region.binds .any e=true→e.on≠i)→oi.apart ops ok=true:=fun k ok hk hki hun hno=>by
     refine hfree k ok hk hki ?_ hno
     by_cases hjk:j=k
     ·subst hjk; exact hjun
     ·rw [getD_set_ne true hjk] at hun; exact hun
    refine h2.mono fun a' w' ⟨⟨u,ha'⟩,s',hZ,hEx,h3⟩=>⟨s',hZ,hEx,ih (listed.setIfInBounds j true) S s' a' w' (hSs.trans hZ.1) hfree' (ready_mono hr (Ne.symm hji)) ?_ ?_⟩
    ·rw [ha']; exact (hy.ex (hZ.2.anti hSs)).put hap (fun cs b=>hsel i oi cs b hi)
    ·rw [Array.setIfInBounds_comm _ _ hji]; exact h3
def Tr.alts:Tr→List (Nat × Bool × Tr)
 | .op i k t=>[(i,k,t)]
 | .alt s t=>s.alts++t.alts
 | _=>[]
theorem RTree.alts {P ops} {Q:Act→World→Prop} {S:SZ} {a:Act} {w:World}:∀ {t:Tr},RTree P ops Q t S a w→∀ p∈t.alts,RTree P ops Q (.op p.1 p.2.1 p.2.2) S a w:=by
 intro t
 induction t with
 | done=>intro _ p hp; simp [Tr.alts] at hp
 | rd=>intro _ p hp; simp [Tr.alts] at hp
 | pu=>intro _ p hp; simp [Tr.alts] at hp
 | op i k t=>intro h p hp; simp [Tr.alts] at hp; subst hp; exact h
 | alt s t ihs iht =>
   intro h p hp
   simp only [Tr.alts,List.mem_append] at hp
   rcases hp with hp | hp
   ·exact ihs h.1 p hp
   ·exact iht h.2 p hp
def Z6 (ops:Array Oper) (kd:Nat→Nat) (tag:Bool):Tr→Array Bool→Bool
 | .done,listed=>!tag&&(Region.ready .any ops listed).isEmpty
 | .rd i t,listed=>!tag&&kd i==0&&(Region.ready .any ops listed).contains i&&Region.free .any ops listed i&&Z6 ops kd false t (listed.setIfInBounds i true)
 | .pu i t,listed=>!tag&&kd i==3&&(Region.ready .any ops listed).contains i&&Region.free .any ops listed i&&Z6 ops kd false t (listed.setIfInBounds i true)
 | .op i k t,listed=>(tag || ((Region.ready .any ops listed).all (fun j=>j==i)&&!(Region.ready .any ops listed).isEmpty))&&(k || kd i==2)&&Z6 ops kd false t (listed.setIfInBounds i true)
 | .alt s t,listed=>(tag || ((Region.ready .any ops listed).all (fun j=>(Tr.alt s t).alts.any (fun p=>p.1==j))&&!(Region.ready .any ops listed).isEmpty))&&Z6 ops kd true s listed&&Z6 ops kd true t listed
def Tr.depth:Tr→Nat
 | .done=>0
 | .rd _ t=>t.depth+1
 | .pu _ t=>t.depth+1
 | .op _ _ t=>t.depth+1
 | .alt s t=>max s.depth t.depth
theorem QqF {P ops kd} {S:SZ} {a:Act} {w:World} (h:Region.ready .any ops listed=[]) (hq:Q a w):∀ f,anyR P ops kd Q f listed S a w
 | 0=>⟨h,hq⟩
 | _+1=>⟨fun _=>hq,fun i hi=>by rw [h] at hi; cases hi⟩
theorem Tr.depth_alts:∀ (t:Tr) (p:Nat × Bool × Tr),p∈t.alts→p.2.2.depth+1≤t.depth
 | .done,_,h=>by simp [Tr.alts] at h
 | .rd ..,_,h=>by simp [Tr.alts] at h
 | .pu ..,_,h=>by simp [Tr.alts] at h
 | .op i k t,p,h=>by simp [Tr.alts] at h; subst h; simp [Tr.depth]
 | .alt s t,p,h=>by
   simp only [Tr.alts,List.mem_append] at h
   have:=h.imp (Tr.depth_alts s p) (Tr.depth_alts t p)
   simp only [Tr.depth]; omega
theorem QfM {ops kd} {listed:Array Bool}:∀ (t:Tr),Z6 ops kd true t listed=true→∀ p∈t.alts,(p.2.1=true∨kd p.1=2)∧Z6 ops kd false p.2.2 (listed.setIfInBounds p.1 true)=true
 | .done,h=>by simp [Z6] at h
 | .rd ..,h=>by simp [Z6] at h
 | .pu ..,h=>by simp [Z6] at h
 | .op i k t,h=>by
   intro p hp
   simp only [Tr.alts,List.mem_singleton] at hp
   subst hp
   simp only [Z6,Bool.true_or,Bool.true_and,Bool.and_eq_true,Bool.or_eq_true,beq_iff_eq] at h
   exact h
 | .alt s t,h=>by
   intro p hp
   simp only [Z6,Bool.true_or,Bool.true_and,Bool.and_eq_true] at h
   simp only [Tr.alts,List.mem_append] at hp
   exact hp.elim (QfM s h.1 p) (QfM t h.2 p)
theorem QjS {P ops kd} (hT:TabW ops T) (hsink:QsP ops T kd=true) (hs:Region.noSelect ops=true) :
 ∀ (f:Nat) (t:Tr) (listed:Array Bool) (S:SZ) (a:Act) (w:World),Closed ops listed→t.depth≤f→Z6 ops kd false t listed=true→RTree P ops Q t S a w→anyR P ops kd Q f listed S a w:=by
 intro f
 induction f with
 | zero =>
   intro t listed S a w hcl hd hB h
   have hne:∀ (x:Tr),Z6 ops kd true x listed=true→0<x.depth:=fun x=>by
    induction x with
    | done=>intro h; simp [Z6] at h
    | rd=>intro h; simp [Z6] at h
    | pu=>intro h; simp [Z6] at h
    | op=>intro _; simp [Tr.depth]
    | alt s t ihs iht =>
      intro h
      simp only [Z6,Bool.true_or,Bool.true_and,Bool.and_eq_true] at h
      have:=ihs h.1
      simp only [Tr.depth]; omega
   cases t with
   | done=>exact QqF (by simpa [Z6] using hB) h _
   | rd=>simp [Tr.depth] at hd
   | pu=>simp [Tr.depth] at hd
   | op=>simp [Tr.depth] at hd
   | alt s t =>
     simp only [Z6,Bool.and_eq_true] at hB
     have:=hne s hB.1.2
     simp only [Tr.depth] at hd; omega
 | succ f ih =>
   intro t listed S a w hcl hd hB h
   have branch:∀ (u:Tr),(∀ p∈u.alts,(p.2.1=true∨kd p.1=2)∧Z6 ops kd false p.2.2 (listed.setIfInBounds p.1 true)=true)→u.depth≤f+1→RTree P ops Q u S a w →
    (∀ j∈Region.ready .any ops listed,∃ p∈u.alts,p.1=j)→Region.ready .any ops listed≠[]→anyR P ops kd Q (f+1) listed S a w:=by
    intro u hu hdu hru hall hne
    refine ⟨fun e=>absurd e hne,fun j hj=>?_⟩
    obtain ⟨p,hp,rfl⟩:=hall j hj
    have h1:=hru.alts p hp
    obtain ⟨hk,hB1⟩:=hu p hp
    have hdp:=Tr.depth_alts u p hp
    refine opN.mono h1 fun a' w' ⟨S',hz,hx,ht⟩=>⟨S',hz,fun hk2=>hx (hk.resolve_right hk2),ih _ _ _ _ _ (hcl.set hj) (by omega) hB1 ht⟩
   cases t with
   | done=>exact QqF (by simpa [Z6] using hB) h _
   | rd i t =>
     simp only [Z6,Bool.not_false,Bool.true_and,Bool.and_eq_true,beq_iff_eq,List.contains_iff_mem] at hB
     obtain ⟨⟨⟨hk,hr⟩,hf⟩,hB1⟩:=hB
     obtain ⟨o,v,ho,hy,ht⟩:=h
     exact QuJ ho hk hT hsink (Region.noSelect_spec hs) f listed S S a w hcl (Sg.le.refl _) (Region.free_spec ho hf) hr hy (ih _ _ _ _ _ (hcl.set hr) (by simp only [Tr.depth] at hd; omega) hB1 ht)
   | pu i t =>
     simp only [Z6,Bool.not_false,Bool.true_and,Bool.and_eq_true,beq_iff_eq,List.contains_iff_mem] at hB
     obtain ⟨⟨⟨hk,hr⟩,hf⟩,hB1⟩:=hB
     obtain ⟨o,v,ho,hy,ht⟩:=h
     exact QyF ho (Region.noSelect_spec hs) f listed S S a w (Sg.le.refl _) (Region.free_spec ho hf) hr hy (ih _ _ _ _ _ (hcl.set hr) (by simp only [Tr.depth] at hd; omega) hB1 ht)
   | op i k t =>
     simp only [Z6,Bool.false_or,Bool.and_eq_true,Bool.or_eq_true,beq_iff_eq,List.all_eq_true,Bool.not_eq_true',List.isEmpty_eq_false_iff] at hB
     obtain ⟨⟨⟨hall,hne⟩,hk⟩,hB1⟩:=hB
     refine branch (.op i k t) (fun p hp=>?_) hd h (fun j hj=>⟨_,List.mem_singleton.2 rfl,(hall j hj).symm⟩) hne
     simp only [Tr.alts,List.mem_singleton] at hp
     subst hp
     exact ⟨hk,hB1⟩
   | alt s t =>
     simp only [Z6,Bool.false_or,Bool.and_eq_true,List.all_eq_true,Bool.not_eq_true',List.isEmpty_eq_false_iff,List.any_eq_true,beq_iff_eq] at hB
     obtain ⟨⟨⟨hall,hne⟩,hs1⟩,ht1⟩:=hB
     refine branch (.alt s t) (fun p hp=>?_) hd h hall hne
     simp only [Tr.alts,List.mem_append] at hp
     exact hp.elim (QfM s hs1 p) (QfM t ht1 p)
def Qun (ops:Array Oper) (kd:Nat→Nat) (t:Tr):Bool :=
 Region.noSelect ops&&QsP ops (QmV ops.toList #[]) kd&&decide (t.depth≤ops.size)&&Z6 ops kd false t (Array.replicate ops.size false)
variable {t:Tr} {kd:Nat→Nat}
theorem QKu {P:Program} {id:Nat} {a:Act} {w:World} (hm:P.follows .mixedOrders=true)
 (hB:Qun ops kd t=true) {S:SZ} (h:RTree P ops (Q' .normal) t S a w.drew):(Code.region id ops true).wp P Q' a w:=by
 simp only [Qun,Bool.and_eq_true,decide_eq_true_eq] at hB
 obtain ⟨⟨⟨h1,h2⟩,h3⟩,h4⟩:=hB
 exact wp_region_any hm (anyR.wpAny (Q:=Q' .normal) (fun _ _ h=>h) _ _ _ _ _ (QjS (Qiz _ _ (by simp) (fun j i h=>by simp [QkG] at h)) h2 h1 _ _ _ _ _ _ (fun j o ho hj e he hb=>by simp [Array.getElem?_replicate] at hj; split at hj <;> simp at hj) h3 h4 h))
theorem QtO {P:Program} {id:Nat} {a:Act} {w:World} 
 (hB:seqB 0 ops.size t=true) {S:SZ} (h:RTree P ops (Q' .normal) t S a w):(Code.region id ops false).wp P Q' a w :=
 wp_region (by rw [List.range_eq_range']; exact h.seq (fun _ _ h=>h) _ _ _ _ _ _ hB)
def Qnp (o:Oper):Nat:=o.after.toList.foldl (fun m e=>if Region.binds .any e then m ||| (1 <<< e.on) else m) 0
def QAw (ops:Array Oper) (i:Nat) (oi:Oper):Nat→List Oper→Nat→Nat
 | _,[],m=>m
 | j,o::l,m=>QAw ops i oi (j+1) l (if j==i || o.after.any (fun e=>Region.binds .any e&&e.on==i) || oi.apart ops o then m ||| (1 <<< j) else m)
def QcD (l:Nat):Nat→List Nat→List Nat
 | _,[]=>[]
 | i,m::r=>if !l.testBit i&&((m &&& l)==m) then i::QcD l (i+1) r else QcD l (i+1) r
def QId (n l i:Nat):Nat:=if i<n then l ||| (1 <<< i) else l
def QAt (ops:Array Oper) (n l i:Nat):Bool :=
 match ops[i]? with
 | none=>false
 | some oi=>((l ||| QAw ops i oi 0 ops.toList 0) &&& (2 ^ n - 1))==2 ^ n - 1
def QjT (ops:Array Oper) (n:Nat) (em:List Nat) (kd:Nat→Nat) (tag:Bool):Tr→Nat→Bool
 | .done,l=>!tag&&(QcD l 0 em).isEmpty
 | .rd i t,l=>!tag&&kd i==0&&(QcD l 0 em).contains i&&QAt ops n l i&&QjT ops n em kd false t (QId n l i)
 | .pu i t,l=>!tag&&kd i==3&&(QcD l 0 em).contains i&&QAt ops n l i&&QjT ops n em kd false t (QId n l i)
 | .op i k t,l=>(tag || ((QcD l 0 em).all (fun j=>j==i)&&!(QcD l 0 em).isEmpty))&&(k || kd i==2)&&QjT ops n em kd false t (QId n l i)
 | .alt s t,l=>(tag || ((QcD l 0 em).all (fun j=>(Tr.alt s t).alts.any (fun p=>p.1==j))&&!(QcD l 0 em).isEmpty))&&QjT ops n em kd true s l&&QjT ops n em kd true t l
theorem QrX (i j:Nat):(1 <<< i).testBit j=decide (i=j):=by rw [Nat.shiftLeft_eq,Nat.one_mul,Nat.testBit_two_pow]
theorem Qx8 (o:Oper) (i:Nat):(Qnp o).testBit i=o.after.toList.any fun e=>Region.binds .any e&&e.on==i:=by
 unfold Qnp
 have key:∀ (l:List Edge) (m:Nat),(l.foldl (fun m e=>if Region.binds .any e then m ||| (1 <<< e.on) else m) m).testBit i=(m.testBit i || l.any fun e=>Region.binds .any e&&e.on==i):=by
  intro l
  induction l with
  | nil=>intro m; simp
  | cons e l ih =>
    intro m
    rw [List.foldl_cons,ih,List.any_cons]
    cases Region.binds .any e
    ·simp
    ·simp only [if_true,Nat.testBit_or,QrX,Bool.true_and,Bool.or_assoc]
     rfl
 rw [key]; simp
theorem Qzo (m l:Nat):((m &&& l)==m)=true↔∀ i,m.testBit i=true→l.testBit i=true:=by
 rw [beq_iff_eq]
 constructor
 ·intro h i hi
  rw [← h,Nat.testBit_and,Bool.and_eq_true] at hi
  exact hi.2
 ·intro h
  apply Nat.eq_of_testBit_eq
  intro i
  rw [Nat.testBit_and]
  cases hm:m.testBit i with
  | false=>rfl
  | true=>simp [h i hm]
def LR (n:Nat) (A:Array Bool) (l:Nat):Prop:=A.size=n∧∀ i,l.testBit i=A.getD i false
theorem LR.start (n:Nat):LR n (Array.replicate n false) 0:=⟨by simp,fun i=>by simp [Array.getD_eq_getD_getElem?,Array.getElem?_replicate]; split <;> simp⟩
theorem LR.set {n:Nat} (h:LR n A l) (i:Nat):LR n (A.setIfInBounds i true) (QId n l i):=by
 refine ⟨by simp [h.1],fun j=>?_⟩
 unfold QId
 have h2:=h.2 j
 split
 ·rename_i hi
  rw [Nat.testBit_or,QrX,h2,Array.getD_eq_getD_getElem?,Array.getD_eq_getD_getElem?,Array.getElem?_setIfInBounds]
  by_cases e:i=j
  ·subst e; simp [h.1,hi]
  ·simp [e]
 ·rename_i hi
  rw [h2,Array.getD_eq_getD_getElem?,Array.getD_eq_getD_getElem?,Array.getElem?_setIfInBounds]
  by_cases e:i=j
  ·subst e; rw [if_pos rfl,if_neg (by rw [h.1]; exact hi),Array.getElem?_eq_none (by rw [h.1]; omega)]
  ·simp [e]
theorem QeR (h:LR ops.size A l):QcD l 0 (ops.toList.map Qnp)=Region.ready .any ops A:=by
 unfold Region.ready
 have key:∀ (L:List Oper) (k:Nat),ops.toList.drop k=L→QcD l k (L.map Qnp)=(List.range' k L.length).filter fun i =>
  !A.getD i true&&((ops[i]?).map (·.after.all fun e=>!Region.binds .any e || A.getD e.on false)).getD false:=by
  intro L
  induction L with
  | nil=>intro k _; rfl
  | cons o L ih =>
    intro k hk
    have hk1:ops[k]?=some o:=by
     have:=congrArg (·[0]?) hk
     simpa [List.getElem?_drop] using this
    have hk2:ops.toList.drop (k+1)=L:=by
     have:=congrArg (List.drop 1) hk
     simpa [List.drop_drop] using this
    have hlt:k<ops.size:=(Array.getElem?_eq_some_iff.1 hk1).1
    simp only [List.map_cons,QcD,List.length_cons,List.range'_succ,List.filter_cons,ih (k+1) hk2]
    have e1:l.testBit k=A.getD k true:=by
     rw [h.2 k,Array.getD_eq_getD_getElem?,Array.getD_eq_getD_getElem?,Array.getElem?_eq_getElem (by rw [h.1]; exact hlt)]; rfl
    have e2:((Qnp o &&& l)==Qnp o)=(o.after.all fun e=>!Region.binds .any e || A.getD e.on false):=by
     rw [Bool.eq_iff_iff,Qzo]
     simp only [Qx8,List.any_eq_true,Array.all_eq_true',Bool.or_eq_true,Bool.not_eq_true',Bool.and_eq_true,beq_iff_eq,h.2]
     constructor
     ·intro hh e he
      cases hb:Region.binds .any e with
      | false=>exact .inl rfl
      | true=>exact .inr (hh e.on ⟨e,Array.mem_toList_iff.2 he,hb,rfl⟩)
     ·rintro hh i ⟨e,he,hb,rfl⟩
      rcases hh e (Array.mem_toList_iff.1 he) with h' | h'
      ·rw [hb] at h'; cases h'
      ·exact h'
    rw [e1,e2,hk1]
    simp
 have:=key ops.toList 0 rfl
 rw [this,List.range_eq_range']
 simp
theorem QpA {ops:Array Oper} {i:Nat} {oi:Oper}:∀ (L:List Oper) (k m j:Nat),(QAw ops i oi k L m).testBit j=true→m.testBit j=true∨∃ o,L[j - k]?=some o∧k≤j∧(j==i || o.after.any (fun e=>Region.binds .any e&&e.on==i) || oi.apart ops o)=true
 | [],k,m,j,h=>.inl h
 | o::L,k,m,j,h=>by
   simp only [QAw] at h
   rcases QpA L (k+1) _ j h with h' | ⟨o',h1,h2,h3⟩
   ·split at h'
    ·rename_i hc
     rw [Nat.testBit_or,QrX,Bool.or_eq_true,decide_eq_true_eq] at h'
     rcases h' with h' | rfl
     ·exact .inl h'
     ·exact .inr ⟨o,by simp,Nat.le_refl _,hc⟩
    ·exact .inl h'
   ·refine .inr ⟨o',?_,by omega,h3⟩
    have:j - k=(j - (k+1))+1:=by omega
    rw [this,List.getElem?_cons_succ]
    exact h1
theorem Qtq (h:LR ops.size A l) (hf:QAt ops ops.size l i=true):Region.free .any ops A i=true:=by
 unfold QAt at hf
 unfold Region.free
 cases hi:ops[i]? with
 | none=>rw [hi] at hf; cases hf
 | some oi =>
   rw [hi] at hf
   simp only [beq_iff_eq] at hf
   simp only [List.all_eq_true,List.mem_range]
   intro j hj
   have hb:=congrArg (·.testBit j) hf
   simp only [Nat.testBit_and,Nat.testBit_or,Nat.testBit_two_pow_sub_one,hj,decide_true,Bool.and_true] at hb
   rw [Bool.or_eq_true] at hb
   rcases hb with hb | hb
   ·have:A.getD j true=true:=by
     rw [h.2 j,Array.getD_eq_getD_getElem?,Array.getElem?_eq_getElem (by rw [h.1]; exact hj)] at hb
     rw [Array.getD_eq_getD_getElem?,Array.getElem?_eq_getElem (by rw [h.1]; exact hj)]
     exact hb
    simp [this]
   ·rcases QpA _ _ _ _ hb with h' | ⟨o,h1,_,h3⟩
    ·simp at h'
    ·have ho:ops[j]?=some o:=by simpa using h1
     simp only [Bool.or_eq_true,beq_iff_eq] at h3
     rw [ho]
     rcases h3 with (h3 | h3) | h3
     ·simp [h3]
     ·simp only [h3,Bool.true_or,Bool.or_true]
     ·simp only [h3,Bool.or_true]
theorem QfL {ops:Array Oper} {kd:Nat→Nat}:∀ (t:Tr) (tag:Bool) (A:Array Bool) (l:Nat),LR ops.size A l→QjT ops ops.size (ops.toList.map Qnp) kd tag t l=true→Z6 ops kd tag t A=true
 | .done,tag,A,l,h,ht=>by
   simp only [QjT,Z6,QeR h] at ht ⊢
   exact ht
 | .rd i t,tag,A,l,h,ht=>by
   simp only [QjT,Z6,QeR h,Bool.and_eq_true] at ht ⊢
   exact ⟨⟨ht.1.1,Qtq h ht.1.2⟩,QfL t false _ _ (h.set i) ht.2⟩
 | .pu i t,tag,A,l,h,ht=>by
   simp only [QjT,Z6,QeR h,Bool.and_eq_true] at ht ⊢
   exact ⟨⟨ht.1.1,Qtq h ht.1.2⟩,QfL t false _ _ (h.set i) ht.2⟩
 | .op i k t,tag,A,l,h,ht=>by
   simp only [QjT,Z6,QeR h,Bool.and_eq_true] at ht ⊢
   exact ⟨ht.1,QfL t false _ _ (h.set i) ht.2⟩
 | .alt s t,tag,A,l,h,ht=>by
   simp only [QjT,Z6,QeR h,Bool.and_eq_true] at ht ⊢
   exact ⟨⟨ht.1.1,QfL s true _ _ h ht.1.2⟩,QfL t true _ _ h ht.2⟩
def QLT (ops:Array Oper) (kd:Nat→Nat) (t:Tr):Bool :=
 Region.noSelect ops&&QsP ops (QmV ops.toList #[]) kd&&decide (t.depth≤ops.size)&&QjT ops ops.size (ops.toList.map Qnp) kd false t 0
theorem Qtx (h:QLT ops kd t=true):Qun ops kd t=true:=by
 simp only [QLT,Qun,Bool.and_eq_true] at h ⊢
 exact ⟨h.1,QfL t false _ _ (LR.start _) h.2⟩
def QiG (ops:Array Oper):Bool:=ops.all fun o=>match o.op with | .defer _=>false | _=>true
theorem opN.in {P:Program} (hd:QiG ops=true) {a:Act} {w:World} {Q:Exit→Act→World→Prop} {n:Nat} (h:opN P ops i a w K):wpOpIn (Fence.wide.inRound l) n P ops Q i K a w:=by
 obtain ⟨o,ho,h⟩:=h
 unfold wpOpIn
 simp only [ho]
 have hnd:∀ c,o.op≠.defer c:=fun c e=>by
  have h1:=Array.all_eq_true.1 hd i (Array.getElem?_eq_some_iff.1 ho).1
  rw [(Array.getElem?_eq_some_iff.1 ho).2,e] at h1
  cases h1
 split
 ·rename_i hw
  rw [if_pos hw] at h
  refine ⟨fun _ _=>trivial,?_⟩
  rw [Oper.semAt_eq _ _ _ hnd]
  unfold op1 at h
  split at h
  ·rename_i e; rw [e]; exact h
  ·rename_i e; rw [e]; exact h
  ·rename_i f args w' e
   rw [e]
   refine And.intro (fun hh=>by simp [Fence.inRound,Fence.wide] at hh) ?_
   exact CallsIn.inRound l (((callsIn_wide (n:=n - 1)).2 h).mono fun e w'' ⟨v,he,hk⟩=>by subst he; exact hk)
  ·exact h.elim
 ·rename_i hw
  rw [if_neg hw] at h
  exact ⟨fun _ _=>trivial,h⟩
theorem anyR.wpAnyIn {P ops kd} (hd:QiG ops=true) {Q:Act→World→Prop} {Q':Exit→Act→World→Prop} (hQ:∀ a w,Q a w→Q' .normal a w) {l n:Nat} :
 ∀ (f:Nat) (listed:Array Bool) (S:SZ) (a:Act) (w:World),anyR P ops kd Q f listed S a w→Go.wpAnyIn (Fence.wide.inRound l) n P .any ops Q' f listed a w
 | 0,_,_,_,_,h=>⟨h.1,hQ _ _ h.2⟩
 | f+1,_,_,_,_,h=>⟨fun e=>hQ _ _ (h.1 e),fun i hi=>(opN.mono (h.2 i hi) fun a w ⟨_,_,_,x⟩=>anyR.wpAnyIn hd hQ f _ _ _ _ x).in hd⟩
theorem QwG {P:Program} {id:Nat} {a:Act} {w:World} {n:Nat} (hm:P.follows .mixedOrders=true) (hd:QiG ops=true)
 (hB:Qun ops kd t=true) {S:SZ} (h:RTree P ops (Q' .normal) t S a w.drew):(Code.region id ops true).wpIn (Fence.wide.inRound l) n P Q' a w:=by
 simp only [Qun,Bool.and_eq_true,decide_eq_true_eq] at hB
 obtain ⟨⟨⟨h1,h2⟩,h3⟩,h4⟩:=hB
 exact wpIn_region_any hm (anyR.wpAnyIn hd (Q:=Q' .normal) (fun _ _ h=>h) _ _ _ _ _ (QjS (Qiz _ _ (by simp) (fun j i h=>by simp [QkG] at h)) h2 h1 _ _ _ _ _ _ (fun j o ho hj e he hb=>by simp [Array.getElem?_replicate] at hj; split at hj <;> simp at hj) h3 h4 h))
theorem RTree.seqIn {P ops} (hd:QiG ops=true) (hQ:∀ a w,Q a w→Q' .normal a w) {m:Nat}:∀ (n k:Nat) (t:Tr) (S:SZ) (a:Act) (w:World),seqB k n t=true→RTree P ops Q t S a w→wpOpsIn (Fence.wide.inRound l) m P ops Q' (List.range' k n) a w:=by
 intro n
 induction n with
 | zero =>
   intro k t S a w hs h
   cases t <;> simp [seqB] at hs
   exact hQ _ _ h
 | succ n ih =>
   intro k t S a w hs h
   rw [List.range'_succ,wpOpsIn_cons]
   cases t with
   | done=>simp [seqB] at hs
   | alt=>simp [seqB] at hs
   | pu=>simp [seqB] at hs
   | rd i t =>
     simp only [seqB,Bool.and_eq_true,beq_iff_eq] at hs
     obtain ⟨rfl,hs⟩:=hs
     obtain ⟨o,v,ho,hr,ht⟩:=h
     exact (hr.opN (K:=fun a w=>wpOpsIn (Fence.wide.inRound l) m P ops Q' (List.range' (i+1) n) a w) ho (ih _ _ _ _ _ hs ht)).in hd
   | op i c t =>
     simp only [seqB,Bool.and_eq_true,beq_iff_eq] at hs
     obtain ⟨rfl,hs⟩:=hs
     exact (opN.mono h fun a w ⟨_,_,_,x⟩=>ih _ _ _ _ _ hs x).in hd
theorem QoS {P:Program} {id:Nat} {a:Act} {w:World} {n:Nat} (hd:QiG ops=true)
 (hB:seqB 0 ops.size t=true) {S:SZ} (h:RTree P ops (Q' .normal) t S a w):(Code.region id ops false).wpIn (Fence.wide.inRound l) n P Q' a w :=
 wpIn_region (by rw [List.range_eq_range']; exact h.seqIn hd (fun _ _ h=>h) _ _ _ _ _ _ hB)
def QtC:Code→Bool
 | .skip=>true
 | .exit _=>true
 | .ret=>true
 | .region _ ops _=>QiG ops
 | .seq a b=>QtC a&&QtC b
 | .cond _ a b=>QtC a&&QtC b
 | .block _ b=>QtC b
 | .loop b=>QtC b
 | _=>false
def Mode (c:Code) (F:Fence):Prop:=F=Fence.wide∨(QtC c=true∧∃ l,F=Fence.wide.inRound l)
theorem Mode.sub {c d:Code} {F:Fence} (h:Mode c F) (hs:QtC c=true→QtC d=true):Mode d F:=h.imp id fun ⟨a,b⟩=>⟨hs a,b⟩
inductive Arg where
 | t (n:Nat)
 | c (v:V)
 | g (n:Nat)
abbrev Fr:=List (Nat × V)
def Qd:Fr→Nat→V
 | [],_=>.any
 | (i,v)::r,t=>if i=t then v else Qd r t
def QfT:Fr→Nat→V→Fr
 | [],t,v=>[(t,v)]
 | (i,u)::r,t,v=>if i=t then (i,v)::r else (i,u)::QfT r t v
theorem Qff (fr:Fr) (t u:Nat) (v:V):Qd (QfT fr t v) u=if t=u then v else Qd fr u:=by
 induction fr with
 | nil=>simp [QfT,Qd]
 | cons p r ih =>
   obtain ⟨i,x⟩:=p
   simp only [QfT]
   by_cases h:i=t
   ·subst h
    simp only [if_pos,Qd]
    split <;> rfl
   ·rw [if_neg h]
    simp only [Qd,ih]
    by_cases h2:i=u
    ·subst h2
     have:¬ t=i:=fun e=>h e.symm
     simp [this]
    ·simp [h2]
structure FR (I:Imm) (ρ:Names) (n:Nat) (fr:Fr) (a:Act):Prop where
 defers:a.defers=[]
 size:a.tmps.size=n
 vals:∀ t,VR I ρ (Qd fr t) (a.tmps.getD t undef)
theorem FR.mono {I I' ρ ρ' n fr a} (h:FR I ρ n fr a) (hI:I.le I') (hρ:ρ.le ρ'):FR I' ρ' n fr a:=⟨h.defers,h.size,fun t=>(h.vals t).mono hI hρ⟩
theorem FR.put {I ρ n fr a} (h:FR I ρ n fr a) {d:Nat} (hd:d<n) {v:V} {x:Value} (hv:VR I ρ v x):FR I ρ n (QfT fr d v) (a.put (some d) x) where
 defers:=h.defers
 size:=by simp [Act.put,h.size]
 vals:=fun t=>by
  rw [Qff]
  have hs:=h.size
  by_cases ht:d=t
  ·subst ht
   simp [Act.put,Array.getElem?_setIfInBounds,hs,hd]
   exact hv
  ·rw [if_neg ht]
   have:=h.vals t
   simpa [Act.put,Array.getElem?_setIfInBounds_ne ht] using this
def fput (fr:Fr):Option Nat→V→Fr
 | none,_=>fr
 | some d,v=>QfT fr d v
theorem FR.fput {I ρ n fr a} (h:FR I ρ n fr a) {d:Option Nat} (hd:∀ t,d=some t→t<n) {v:V} (hv:VR I ρ v x):FR I ρ n (Am.fput fr d v) (a.put d x):=by
 cases d with
 | none=>exact h
 | some d=>exact h.put (hd d rfl) hv
def arg (G:Nat→Option V) (fr:Fr):Arg→V
 | .t n=>Qd fr n
 | .c v=>v
 | .g n=>match G n with
   | some x=>.ref x 0
   | none=>.any
def ofC:Value→V
 | .int k n=>.int k n
 | .bool b=>.bool b
 | .string s=>.str s.data.toList
 | .slice none 0 0=>.lst 0 [] true
 | v=>.val v
def ofV:Value→V
 | .agg cs=>.agg (cs.toList.map ofC)
 | .tuple cs=>.tup (cs.toList.map ofC)
 | v=>ofC v
theorem QIM (I ρ) (v:Value):VR I ρ (ofC v) v:=by
 unfold ofC
 split
 ·exact .int _ _ _
 ·exact .bool _ _
 ·exact .str _ _
 ·exact .lstN _ _ _ _ _ fun _=>rfl
 ·exact .val _ _
theorem QhD (I ρ) (cs:Array Value):∀ (j:Nat) (v:V) (x:Value),(cs.toList.map ofC)[j]?=some v→cs[j]?=some x→VR I ρ v x:=fun j v x h1 h2=>by
 simp only [List.getElem?_map,Array.getElem?_toList,h2,Option.map_some,Option.some.injEq] at h1
 subst h1
 exact QIM _ _ _
theorem QqH (I ρ) (v:Value):VR I ρ (ofV v) v:=by
 unfold ofV
 split
 ·exact .agg _ _ _ (by simp) (QhD _ _ _)
 ·exact .tup _ _ _ (by simp) (QhD _ _ _)
 ·exact QIM _ _ _
def Qa:Operand→Arg
 | .tmp t=>.t t
 | .const v=>.c (ofV v)
 | .global g=>.g g
 | .func f=>.c (.fn (.func f) [] [])
theorem QF {G I ρ σ w n fr a} (hR:Rel G I ρ σ w) (hF:FR I ρ n fr a) (x:Operand):VR I ρ (arg G fr (Qa x)) (a.eval x):=by
 cases x with
 | tmp t=>exact hF.vals t
 | const v=>exact QqH _ _ _
 | global g =>
   simp only [Qa,arg]
   split
   ·rename_i x hx; exact (hR.globs g x hx).1.mono (Imm.le.refl _) (fun _ _ _ h=>by cases h)
   ·exact .any _ _
 | func f=>exact .fn _ _ _ _ _ _ (by simp) (by simp) (fun j v x h=>by simp at h) (fun j v x h=>by simp at h)
def XU (c r:Prop):Prop:=c∧r
theorem Q3 {c r:Prop} (h:c):XU c r=r:=by simp [XU,h]
def Cell (S:Sg) (w:World) (a:Addr) (x:Value):Prop:=∀ w',Ek S w w'→w'.cell? a=some x
theorem Cell.of {S:Sg} {w:World} {o:Nat} (hs:S.c b o) (h:w.cell? ⟨b,o,none⟩=some x):Cell S w ⟨b,o,none⟩ x:=fun w' k=>(k.cells _ _ hs).trans h
theorem Cell.imm {G I ρ σ w} (hR:Rel G I ρ σ w) {b o:Nat} {x:Value} (h:I b o=some x):Cell (QaS I ρ σ) w ⟨b,o,none⟩ x:=Cell.of (.inl ⟨x,h⟩) (hR.imm _ _ _ h).1
theorem Qqj {G I ρ σ w} (hR:Rel G I ρ σ w) {x:V} {v:Value} (h:VR I ρ (.ref x off) v) :
 ∃ b o,v=.pointer (some ⟨b,o+off,none⟩)∧∃ f:Nat→Value,(∀ j c,x.cells[j]?=some c→VR I ρ c (f j)∧one (f j))∧∀ j,j<x.cells.length→Cell (QaS I ρ σ) w ⟨b,o+j,none⟩ (f j):=by
 cases h with
 | ref _ _ _ b o f h1 h2 =>
   refine ⟨b,o,rfl,f,fun j c hc=>⟨(h2 j c hc).mono (Imm.le.refl _) (fun _ _ _ h=>by cases h),(hR.imm _ _ _ (h1 j c hc)).2⟩,fun j hj=>?_⟩
   exact Cell.imm hR (h1 j _ (List.getElem?_eq_getElem hj))
variable {cs:List V}
theorem QjN {G I ρ σ w} (hR:Rel G I ρ σ w) {n v T:Nat} (h:VR I ρ (.ptr n v off) x) (ho:σ.o[n]?=some (some (.arr v T cs))) :
 ∃ b o,x=.pointer (some ⟨b,o+off,none⟩)∧∃ f:Nat→Value,(∀ j c,cs[j]?=some c→VR I ρ c (f j)∧one (f j))∧∀ j,j<cs.length→Cell (QaS I ρ σ) w ⟨b,o+j,none⟩ (f j):=by
 cases h with
 | ptr _ _ _ _ b o e hn =>
   rcases hR.objs n _ ho with ⟨h0,_⟩ | ⟨b',o',e',c,lo,hi,hn',hc,h1,h2,h3,h4⟩
   ·rw [hn] at h0; cases h0
   ·rw [hn] at hn'
    cases hn'
    refine ⟨b,o,rfl,fun j=>c.getD (o+j) undef,fun j v hj=>?_,fun j hj=>?_⟩
    ·obtain ⟨x,hx,h5,h6⟩:=h4 j v hj
     simp only [Array.getD_eq_getD_getElem?,hx,Option.getD_some]
     exact ⟨h5,h6⟩
    ·obtain ⟨x,hx,h5,h6⟩:=h4 j _ (List.getElem?_eq_getElem hj)
     refine Cell.of (.inr ⟨n,v,T,cs,o,e,ho,hn,by omega,by omega⟩) ?_
     simp only [World.cell?,hc,Option.isSome_none,Bool.false_eq_true,if_false,Array.getD_eq_getD_getElem?,hx,Option.getD_some]
theorem Addr.add_mk (b o k:Nat):(⟨b,o,none⟩:Addr).add k=⟨b,o+k,none⟩:=by unfold Addr.add; split <;> simp_all
def QyY:TypeDesc→Bool
 | .struct _=>true
 | .array _ _=>true
 | _=>false
variable {ag:Bool}
theorem QiB {S:Sg} {P:Program} {w:World} {t:Nat} {d:TypeDesc} (hu:P.underlying t=some d) (hag:ag=QyY d)
 (hsz:(P.info? t).map (·.size)=some sz) (b o:Nat) (f:Nat→Value) (hn:ag=false→sz=1) (hc:∀ j,j<sz→Cell S w ⟨b,o+j,none⟩ (f j)) :
 ∀ w',Ek S w w'→(Instr.loadAt t (.pointer (some ⟨b,o,none⟩))).run P w'=.ok (if ag then .agg ((List.range sz).map f).toArray else f 0) w':=by
 intro w' k
 obtain ⟨i,hi,hs⟩:=Option.map_eq_some_iff.1 hsz
 subst hs
 have hl:=run_loadCells (P:=P) w' ⟨b,o,none⟩ i.size f (fun j hj=>by rw [Addr.add_mk]; exact hc j hj w' k)
 have hag':(isAgg t).run P w'=.ok ag w':=by
  unfold isAgg
  simp only [Sem.run_bind,run_underlying hu,Result.andThen]
  subst hag
  cases d <;> rfl
 unfold Instr.loadAt loadVar
 simp only [Instr.sureAddr,Sem.run_bind,Sem.run_pure,Result.andThen,hag']
 cases ag with
 | true=>simp [sizeOf,typeInfo,hi,hl,Result.andThen]
 | false =>
   have h1:i.size=1:=hn rfl
   have:=hc 0 (by omega) w' k
   simp at this
   simp [this]
inductive Kd where
 | i | b | s
 deriving DecidableEq
def QnM:Kd→V→V→Option Bool
 | .i,.int k a,.int k' b=>if k=k' then some (a==b) else none
 | .b,.bool a,.bool b=>some (a==b)
 | .s,.str a,.str b=>some (a==b)
 | _,_,_=>none
def Qbo:List Kd→List V→List V→Option Bool
 | [],[],[]=>some true
 | k::ks,a::l,b::m=>match QnM k a b,Qbo ks l m with
   | some x,some y=>some (x&&y)
   | _,_=>none
 | _,_,_=>none
inductive AOp where
 | mov (x:Arg)
 | pick (c a b:Arg)
 | load (ag:Bool) (sz:Nat) (x:Arg)
 | loadi (ag:Bool) (sz:Nat) (x:Arg)
 | nilc (x:Arg)
 | bin (op:BinOp) (x y:Arg)
 | eqb (neg:Bool) (x y:Arg)
 | eqp (neg:Bool) (x y:Arg)
 | eqf (neg:Bool) (x:Arg)
 | eqn (neg:Bool) (x:Arg)
 | eqi (neg:Bool) (x:Arg)
 | eqs (neg:Bool) (ks:List Kd) (x y:Arg)
 | un (op:UnOp) (x:Arg)
 | conv (k:IntKind) (x:Arg)
 | same (x:Arg)
 | mkfn (f:Fn) (first cap:List Arg)
 | faddr (off:Nat) (x:Arg)
 | field (ag:Bool) (off sz:Nat) (x:Arg)
 | iaddr (alen:Option Nat) (sz:Nat) (x i:Arg)
 | aidx (ag:Bool) (sz len:Nat) (x i:Arg)
 | sidx (x i:Arg)
 | ssl (x:Arg) (lo hi:Option Arg)
 | slc (sz:Nat) (x:Arg) (lo hi mx:Option Arg)
 | slarr (n sz:Nat) (x:Arg) (lo hi:Option Arg)
 | extr (x:Arg) (i:Nat)
 | len (kd:Nat) (x:Arg)
 | build (zero:List V) (parts:List (Nat × Nat × Arg))
 | maxi (x y:Arg)
 | mini (x y:Arg)
 | max3 (x y z:Arg)
 | look (ok ag:Bool) (ks:List Kd) (zero:V) (x k:Arg)
 | new (T:TypeId) (cs:List V)
 | box (T:TypeId) (x:Arg)
 | bsl (mu ag:Bool) (T:TypeId) (sz:Nat) (zero:List V) (len:Nat) (parts:List (Nat × Nat × Arg))
 | store (sz:Nat) (a x:Arg)
 | mkmap
 | mksl (T:TypeId) (sz bytes:Nat) (zero:List V) (l c:Arg)
 | mapup (ag:Bool) (ks:List Kd) (m k x:Arg)
 | app (T:TypeId) (sz bytes:Nat) (str:Bool) (s x:Arg)
 | appin (sz bytes:Nat) (str:Bool) (s x:Arg)
 | copy (sz:Nat) (str:Bool) (d s:Arg)
 | clr (sz:Nat) (zero:List V) (x:Arg)
 | ment (ag:Bool) (ks:List Kd) (zero:V) (m k:Arg)
 | mst (m s x:Arg)
 | iter (x:Arg)
 | next (x:Arg)
 | entry (x:Arg)
 | tostr (x:Arg)
 | tobytes (T:TypeId) (x:Arg)
 | mark (x:Arg)
def Qno (op:BinOp) (x y:V) (K:V→Prop):Prop :=
 match op,x,y with
 | .shl,.int k a,.int _ b=>XU (0≤b) (K (.int k (k.wrap (a * 2 ^ min b.toNat k.bits))))
 | .shr,.int k a,.int _ b=>XU (0≤b) (K (.int k (a.fdiv (2 ^ min b.toNat k.bits))))
 | .add,.int k a,.int k' b=>XU (k=k') (K (.int k (k.wrap (a+b))))
 | .sub,.int k a,.int k' b=>XU (k=k') (K (.int k (k.wrap (a - b))))
 | .mul,.int k a,.int k' b=>XU (k=k') (K (.int k (k.wrap (a * b))))
 | .quo,.int k a,.int k' b=>XU (k=k'∧b≠0) (K (.int k (k.wrap (a.tdiv b))))
 | .rem,.int k a,.int k' b=>XU (k=k'∧b≠0) (K (.int k (a.tmod b)))
 | .and,.int k a,.int k' b=>XU (k=k') (K (.int k (k.wrap (BitVec.ofInt k.bits a &&& BitVec.ofInt k.bits b).toNat)))
 | .or,.int k a,.int k' b=>XU (k=k') (K (.int k (k.wrap (BitVec.ofInt k.bits a ||| BitVec.ofInt k.bits b).toNat)))
 | .xor,.int k a,.int k' b=>XU (k=k') (K (.int k (k.wrap (BitVec.ofInt k.bits a ^^^ BitVec.ofInt k.bits b).toNat)))
 | .andNot,.int k a,.int k' b=>XU (k=k') (K (.int k (k.wrap (BitVec.ofInt k.bits a &&& ~~~ BitVec.ofInt k.bits b).toNat)))
 | .eql,.int k a,.int k' b=>XU (k=k') (K (.bool (a==b)))
 | .neq,.int k a,.int k' b=>XU (k=k') (K (.bool (a != b)))
 | .lss,.int k a,.int k' b=>XU (k=k') (K (.bool (decide (a<b))))
 | .leq,.int k a,.int k' b=>XU (k=k') (K (.bool (decide (a≤b))))
 | .gtr,.int k a,.int k' b=>XU (k=k') (K (.bool (decide (a > b))))
 | .geq,.int k a,.int k' b=>XU (k=k') (K (.bool (decide (a≥b))))
 | .add,.str a,.str b=>XU (a.length+b.length≤9223372036854775807) (K (.str (a++b)))
 | .eql,.str a,.str b=>K (.bool (a==b))
 | .neq,.str a,.str b=>K (.bool (a != b))
 | _,_,_=>False
def QLN (op:UnOp) (x:V) (K:V→Prop):Prop :=
 match op,x with
 | .neg,.int k n=>K (.int k (k.wrap (0 - n)))
 | .xor,.int k n=>K (.int k (k.wrap (BitVec.ofInt k.bits (if k.signed then -1 else k.max) ^^^ BitVec.ofInt k.bits n).toNat))
 | .not,.bool b=>K (.bool !b)
 | _,_=>False
def Qcr:V→Bool
 | .any=>false
 | .val x=>x.oneCell'
 | _=>true
def Qic (G:Nat→Option V) (fr:Fr):List (Nat × Nat × Arg)→List V→(List V→Prop)→Prop
 | [],cs,K=>K cs
 | (off,sz,x)::r,cs,K=>XU ((arg G fr x).cells.length=sz∧off+sz≤cs.length) (Qic G fr r (cs.take off++(arg G fr x).cells++cs.drop (off+sz)) K)
def Q0 (G:Nat→Option V) (fr:Fr) (len:Nat) (lo hi:Option Arg) (K:Nat→Nat→Prop):Prop :=
 match lo.map (arg G fr),hi.map (arg G fr) with
 | none,none=>K 0 len
 | none,some (.int _ h)=>XU (0≤h∧h.toNat≤len) (K 0 h.toNat)
 | some (.int _ l),none=>XU (0≤l∧l.toNat≤len) (K l.toNat len)
 | some (.int _ l),some (.int _ h)=>XU (0≤l∧l≤h∧h.toNat≤len) (K l.toNat h.toNat)
 | _,_=>False
def Qc7 (ag:Bool) (off sz:Nat) (cs:List V):V:=if ag then .agg ((cs.drop off).take sz) else cs.getD off .any
def V.isAgg:V→Bool
 | .agg _=>true
 | _=>false
def Qdc (ks:List Kd) (k k':V):Bool:=Qbo ks k.cells k'.cells==some true
def Qku (ks:List Kd) (k:V) (es:List (V × V)):Option V:=(es.find? fun p=>Qdc ks k p.1).map (·.2)
def Qxz (ag:Bool) (ks:List Kd) (k:V):Prop:=k.isAgg=ag∧(Qbo ks k.cells k.cells).isSome=true
def Qcd (ag:Bool) (ks:List Kd) (k:V) (es:List (V × V)):Prop:=Qxz ag ks k∧∀ p∈es,p.1.isAgg=ag∧(Qbo ks k.cells p.1.cells).isSome=true
def QiW (sz:Nat) (alen:Option Nat) (y z:V) (K:V→Prop):Prop :=
 match alen,y,z with
 | none,.lst s l _,.int _ i=>XU (0≤i∧i.toNat<l.length∧s=sz) (K (.ref (l.getD i.toNat .any) 0))
 | none,.sl n v off s len _,.int _ i=>XU (0≤i∧i.toNat<len∧s=sz) (K (.ptr n v (off+i.toNat * sz)))
 | some len,.ptr n v off,.int _ i=>XU (0≤i∧i.toNat<len) (K (.ptr n v (off+i.toNat * sz)))
 | some len,.ref y off,.int _ i=>XU (0≤i∧i.toNat<len) (K (.ref y (off+i.toNat * sz)))
 | _,_,_=>False
def Qrx (u:V) (K:V→Prop):Prop :=
 match u with
 | .ptr n v off=>K (.ptr n v off)
 | .ref y off=>K (.ref y off)
 | .fn (.func f) l m=>K (.fn (.func f) l m)
 | _=>False
def Qfh (neg:Bool) (x y:V) (K:V→Prop):Prop :=
 match x,y with
 | .ptr ..,.val (.pointer none)=>K (.bool neg)
 | .ref ..,.val (.pointer none)=>K (.bool neg)
 | .val (.pointer none),.ptr ..=>K (.bool neg)
 | .val (.pointer none),.ref ..=>K (.bool neg)
 | .val (.pointer none),.val (.pointer none)=>K (.bool !neg)
 | _,_=>False
def Qfi (neg:Bool) (x:V) (K:V→Prop):Prop :=
 match x with
 | .fn ..=>K (.bool neg)
 | .val .nilFunc=>K (.bool !neg)
 | _=>False
def Qg0 (neg:Bool) (x:V) (K:V→Prop):Prop :=
 match x with
 | .iface ..=>K (.bool neg)
 | .val .nilIface=>K (.bool !neg)
 | _=>False
def Qfg (neg:Bool) (x:V) (K:V→Prop):Prop :=
 match x with
 | .lst _ [] _=>K (.bool neg)∧K (.bool !neg)
 | .lst _ (_::_) _=>K (.bool neg)
 | .sl _ _ _ _ len _=>K (.bool neg)∧(len=0→K (.bool !neg))
 | _=>False
def QpC (x y z:V) (K:V→Prop):Prop :=
 match x,y,z with
 | .int k a,.int k' b,.int k'' c=>XU (k=k'∧k=k'') (K (.int k (max (max a b) c)))
 | _,_,_=>False
def QpE (σ:H) (kd:Nat) (u:V) (K:V→Prop):Prop :=
 match kd,u with
 | 0,.lst _ l _=>K (.int .i64 l.length)
 | 0,.sl _ _ _ _ len _=>K (.int .i64 len)
 | 1,.str s=>K (.int .i64 s.length)
 | 2,.val (.map none)=>K (.int .i64 0)
 | 2,.mp n v=>match σ.o[n]? with
   | some (some (.map v' es))=>XU (v=v') (K (.int .i64 es.length))
   | _=>False
 | _,_=>False
def QjM (σ:H) (ok ag:Bool) (ks:List Kd) (zero:V) (u k:V) (K:V→Prop):Prop :=
 match u with
 | .mp n v=>match σ.o[n]? with
   | some (some (.map v' es))=>XU (v=v'∧Qcd ag ks k es) (K (if ok then .tup [(Qku ks k es).getD zero,.bool (Qku ks k es).isSome] else (Qku ks k es).getD zero))
   | _=>False
 | .val (.map none)=>XU (Qxz ag ks k) (K (if ok then .tup [zero,.bool false] else zero))
 | _=>False
def Qlr (off:Nat) (u:V) (K:V→Prop):Prop :=
 match u with
 | .ptr n v o=>K (.ptr n v (o+off))
 | .ref y o=>K (.ref y (o+off))
 | _=>False
def evR (G:Nat→Option V) (fr:Fr) (σ:H) (K:V→Prop):AOp→Prop
 | .mov x=>K (arg G fr x)
 | .same x=>match arg G fr x with
   | .str s=>K (.str s)
   | .int _ n=>XU (0≤n∧n<128) (K (.str [UInt8.ofNat n.toNat]))
   | _=>False
 | .pick c a b=>match arg G fr c with
   | .bool t=>(t=true→K (arg G fr a))∧(t=false→K (arg G fr b))
   | _=>False
 | .load ag sz x=>match arg G fr x with
   | .ptr n v off=>match σ.o[n]? with
     | some (some (.arr v' _ cs))=>XU (v=v'∧off+sz≤cs.length∧(ag=false→sz=1)) (K (Qc7 ag off sz cs))
     | _=>False
   | .ref y off=>XU (off+sz≤y.cells.length∧(ag=false→sz=1)) (K (Qc7 ag off sz y.cells))
   | _=>False
 | .loadi ag sz x=>match arg G fr x with
   | .ref y off=>XU (off+sz≤y.cells.length∧(ag=false→sz=1)) (K (Qc7 ag off sz y.cells))
   | _=>False
 | .nilc x=>Qrx (arg G fr x) K
 | .bin op x y=>Qno op (arg G fr x) (arg G fr y) K
 | .eqb neg x y=>match arg G fr x,arg G fr y with
   | .bool a,.bool b=>K (.bool (if neg then a != b else a==b))
   | _,_=>False
 | .eqp neg x y=>Qfh neg (arg G fr x) (arg G fr y) K
 | .eqf neg x=>Qfi neg (arg G fr x) K
 | .eqn neg x=>Qfg neg (arg G fr x) K
 | .eqi neg x=>Qg0 neg (arg G fr x) K
 | .max3 x y z=>QpC (arg G fr x) (arg G fr y) (arg G fr z) K
 | .eqs neg ks x y=>match arg G fr x,arg G fr y with
   | .agg l,.agg m=>match Qbo ks l m with
     | some b=>K (.bool (if neg then !b else b))
     | none=>False
   | _,_=>False
 | .un op x=>QLN op (arg G fr x) K
 | .conv k x=>match arg G fr x with
   | .int _ n=>K (.int k (k.wrap n))
   | _=>False
 | .mkfn f a b=>K (.fn f (a.map (arg G fr)) (b.map (arg G fr)))
 | .faddr off x=>Qlr off (arg G fr x) K
 | .field ag off sz x=>match arg G fr x with
   | .agg cs=>XU (off+sz≤cs.length∧(ag=false→sz=1)) (K (Qc7 ag off sz cs))
   | _=>False
 | .iaddr alen sz x i=>QiW sz alen (arg G fr x) (arg G fr i) K
 | .aidx ag sz len x i=>match arg G fr x,arg G fr i with
   | .agg cs,.int _ i=>XU (0≤i∧i.toNat<len∧i.toNat * sz+sz≤cs.length∧(ag=false→sz=1)) (K (Qc7 ag (i.toNat * sz) sz cs))
   | _,_=>False
 | .sidx x i=>match arg G fr x,arg G fr i with
   | .str s,.int _ i=>XU (0≤i∧i.toNat<s.length) (K (.int .u8 (s.getD i.toNat 0).toNat))
   | _,_=>False
 | .ssl x lo hi=>match arg G fr x with
   | .str s=>Q0 G fr s.length lo hi fun l h=>K (.str ((s.drop l).take (h - l)))
   | _=>False
 | .slc sz x lo hi none=>match arg G fr x with
   | .lst s l tight=>Q0 G fr l.length lo hi fun a b=>XU (s=sz∨l=[]) (K (.lst s ((l.drop a).take (b - a)) (tight&&decide (b=l.length))))
   | .sl n v off s len lim=>Q0 G fr len lo hi fun a b=>XU (s=sz∧(a=0∨a<b)) (K (.sl n v (off+a * sz) s (b - a) (lim.map (· - a))))
   | _=>False
 | .slc sz x lo hi (some mx)=>match arg G fr mx,arg G fr x with
   | .int _ m,.lst s l _=>Q0 G fr m.toNat lo hi fun a b=>XU (0≤m∧m.toNat≤l.length∧(s=sz∨l=[])) (K (.lst s ((l.drop a).take (b - a)) (decide (b=m.toNat))))
   | .int _ m,.sl n v off s len _=>Q0 G fr m.toNat lo hi fun a b=>XU (s=sz∧(a=0∨a<b)∧0≤m∧m.toNat≤len) (K (.sl n v (off+a * sz) s (b - a) (some (m.toNat - a))))
   | _,_=>False
 | .slarr n sz x lo hi=>match arg G fr x with
   | .ptr nm v off=>match σ.o[nm]? with
     | some (some (.arr v' _ cs))=>Q0 G fr n lo hi fun a b=>XU (v=v'∧off+n * sz≤cs.length∧(a=0∨a<n)) (K (.sl nm v (off+a * sz) sz (b - a) (some (n - a))))
     | _=>False
   | _=>False
 | .extr x i=>match arg G fr x with
   | .tup l=>XU (i<l.length) (K (l.getD i .any))
   | _=>False
 | .len kd x=>QpE σ kd (arg G fr x) K
 | .build zero parts=>XU (∀ q∈parts,Qcr (arg G fr q.2.2)=true) (Qic G fr parts zero fun cs=>K (.agg cs))
 | .maxi x y=>match arg G fr x,arg G fr y with
   | .int k a,.int k' b=>XU (k=k') (K (.int k (if b > a then b else a)))
   | _,_=>False
 | .mini x y=>match arg G fr x,arg G fr y with
   | .int k a,.int k' b=>XU (k=k') (K (.int k (if b<a then b else a)))
   | _,_=>False
 | .look ok ag ks zero x k=>QjM σ ok ag ks zero (arg G fr x) (arg G fr k) K
 | _=>False
def szOf (P:Program) (t:TypeId):Option Nat:=(P.info? t).map (·.size)
def Qav (P:Program) (t:TypeId):Option Bool:=(P.underlying t).map QyY
theorem Qdx {I ρ} {f:Nat→Value} (h:∀ j c,cs[j]?=some c→VR I ρ c (f j)) (hl:off+sz≤cs.length) (h1:ag=false→sz=1) :
 VR I ρ (Qc7 ag off sz cs) (if ag then .agg ((List.range sz).map fun j=>f (off+j)).toArray else f off):=by
 cases ag with
 | true =>
   refine .agg _ _ _ (by simp; omega) fun j v x hv hx=>?_
   simp only [List.getElem?_take,List.getElem?_drop] at hv
   split at hv
   ·rename_i hj
    simp [hj] at hx
    subst hx
    exact h _ _ hv
   ·cases hv
 | false =>
   have:=h1 rfl
   subst this
   have ho:off<cs.length:=by omega
   simp only [Qc7,Bool.false_eq_true,if_false,List.getD_eq_getElem?_getD]
   rw [List.getElem?_eq_getElem ho]
   exact h off _ (List.getElem?_eq_getElem ho)
section
variable {P:Program} {S:Sg} {G:Nat→Option V} {I:Imm} {ρ:Names} {σ:H} {w:World} {n:Nat} {fr:Fr} {a:Act}
def RdOk (P:Program) (I:Imm) (ρ:Names) (S:Sg) (w:World) (s:Sem Value) (K:V→Prop):Prop:=∃ v x,K v∧VR I ρ v x∧∀ w',Ek S w w'→s.run P w'=.ok x w'
variable {K:V→Prop} {s:Sem Value}
theorem RdOk.up {S':Sg} (h:RdOk P I ρ S w s K) (k:S.le S'):RdOk P I ρ S' w s K:=by
 obtain ⟨v,x,h1,h2,h3⟩:=h
 exact ⟨v,x,h1,h2,fun w' e=>h3 w' (e.anti k)⟩
def stays (I:Imm):Sg:=⟨fun b o=>∃ x,I b o=some x,fun _=>False⟩
variable {x:Operand} {ag isS:Bool} {t sz f off e cap:Nat}
theorem Qz0 (hR:Rel G I ρ σ w) (hF:FR I ρ n fr a) (hsz:szOf P t=some sz) (hag:Qav P t=some ag) 
 (h:evR G fr σ K (.loadi ag sz (Qa x))):RdOk P I ρ (stays I) w (Instr.loadAt t (a.eval x)) K:=by
 obtain ⟨d,hd,hd2⟩:=Option.map_eq_some_iff.1 hag
 have hv:=QF hR hF x
 simp only [evR] at h
 generalize arg G fr (Qa x)=y at h hv
 generalize a.eval x=p at hv ⊢
 split at h
 ·rename_i y off
  obtain ⟨⟨hl,h1⟩,hk⟩:=h
  cases hv with
  | ref _ _ _ b o f g1 g2 =>
    refine ⟨_,_,hk,Qdx (fun j c hj=>(g2 j c hj).mono (Imm.le.refl _) (fun _ _ _ h=>by cases h)) hl h1,QiB hd hd2.symm hsz b (o+off) (fun j=>f (off+j)) h1 fun j hj=>?_⟩
    have hI:=g1 (off+j) _ (List.getElem?_eq_getElem (by omega))
    rw [Nat.add_assoc]
    exact Cell.of ⟨_,hI⟩ (hR.imm _ _ _ hI).1
 ·exact h.elim
theorem Qxw (hR:Rel G I ρ σ w) (hF:FR I ρ n fr a) (hsz:szOf P t=some sz) (hag:Qav P t=some ag) 
 (h:evR G fr σ K (.load ag sz (Qa x))):RdOk P I ρ (QaS I ρ σ) w (Instr.loadAt t (a.eval x)) K:=by
 obtain ⟨d,hd,hd2⟩:=Option.map_eq_some_iff.1 hag
 have hv:=QF hR hF x
 simp only [evR] at h
 generalize arg G fr (Qa x)=y at h hv
 split at h
 ·rename_i nm v off
  split at h
  ·rename_i v' T cs ho
   obtain ⟨⟨rfl,hl,h1⟩,hk⟩:=h
   obtain ⟨b,o,hx,f,hf,hc⟩:=QjN hR hv ho
   rw [hx]
   exact ⟨_,_,hk,Qdx (fun j c hj=>(hf j c hj).1) hl h1,QiB hd hd2.symm hsz b (o+off) (fun j=>f (off+j)) h1 fun j hj=>by rw [Nat.add_assoc]; exact hc (off+j) (by omega)⟩
  ·exact h.elim
 ·rename_i y off
  obtain ⟨⟨hl,h1⟩,hk⟩:=h
  obtain ⟨b,o,hx,f,hf,hc⟩:=Qqj hR hv
  rw [hx]
  exact ⟨_,_,hk,Qdx (fun j c hj=>(hf j c hj).1) hl h1,QiB hd hd2.symm hsz b (o+off) (fun j=>f (off+j)) h1 fun j hj=>by rw [Nat.add_assoc]; exact hc (off+j) (by omega)⟩
 ·exact h.elim
theorem QAY (a b:List UInt8):((⟨a.toArray⟩:ByteArray).toList==(⟨b.toArray⟩:ByteArray).toList)=(a==b):=by
 rw [Go.ByteArray.toList_mk,Go.ByteArray.toList_mk]
theorem RdOk.of {v:V} {x:Value} (hk:K v) (hv:VR I ρ v x) (hr:∀ w',s.run P w'=.ok x w'):RdOk P I ρ S w s K:=⟨v,x,hk,hv,fun w' _=>hr w'⟩
variable {p q:Value} {y z:V}
theorem QtH {op:BinOp} {xT:TypeId} (hy:VR I ρ y p) (hz:VR I ρ z q) (h:Qno op y z K):RdOk P I ρ S w (binOp op xT p q) K:=by
 unfold Qno at h
 split at h <;> (try exact h.elim)
 all_goals (cases hy; cases hz)
 all_goals first
  | (obtain ⟨hc,hk⟩:=h
     refine .of hk (.int _ _ _) fun w'=>?_
     simp [binOp,Op.shift,Int.not_lt.2 hc]; done)
  | (obtain ⟨rfl,hk⟩:=h
     first
      | (refine .of hk (.int _ _ _) fun w'=>?_
         simp [binOp,Op.intArith,Op.intBits]; done)
      | (refine .of hk (.bool _ _) fun w'=>?_
         simp [binOp,Op.intCmp]; done))
  | (obtain ⟨⟨rfl,h0⟩,hk⟩:=h
     refine .of hk (.int _ _ _) fun w'=>?_
     simp [binOp,Op.intDiv,h0]; done)
  | (obtain ⟨hc,hk⟩:=h
     refine .of hk (.str _ _) fun w'=>?_
     have hm:IntKind.i64.max=9223372036854775807:=by decide
     simp only [binOp,Op.stringOp]
     rw [if_neg (by simp only [ByteArray.size,List.size_toArray,hm]; omega)]
     simp [ByteArray.append]
     rfl)
  | (refine .of h (.bool _ _) fun w'=>?_
     simp only [binOp,Op.stringOp,QAY]
     rfl)
variable {l:List V}
theorem QbQ {i:Nat} (h:i<l.length):l[i]?=some (l.getD i .any):=by
 simp [List.getElem?_eq_getElem h]
theorem un_ok {op:UnOp} (hy:VR I ρ y p) (h:QLN op y K):RdOk P I ρ S w (Op.unary op p) K:=by
 unfold QLN at h
 split at h <;> (try exact h.elim)
 all_goals (cases hy)
 ·refine .of h (.int _ _ _) fun w'=>?_
  simp [Op.unary,Op.intArith]
 ·refine .of h (.int _ _ _) fun w'=>?_
  simp [Op.unary,Op.intBits]
 ·refine .of h (.bool _ _) fun w'=>?_
  simp [Op.unary]
variable {m i:Int} {dst:TypeId} {k kk:IntKind}
theorem QLZ {src:TypeId} (hs:(P.underlying src).isSome=true) (hd:P.underlying dst=some (.int k)) (hy:VR I ρ (.int kk m) p) (h:K (.int k (k.wrap m))) :
 RdOk P I ρ S w (convert src dst p) K:=by
 cases hy
 refine .of h (.int _ _ _) fun w'=>?_
 obtain ⟨d,hd'⟩:=Option.isSome_iff_exists.mp hs
 simp [convert,run_underlying hd',run_underlying hd,Conv.intToInt]
theorem QwU {src:TypeId} (hs:(P.underlying src).isSome=true) (hd:P.underlying dst=some .string) {s:List UInt8} (hy:VR I ρ (.str s) p) (h:K (.str s)) :
 RdOk P I ρ S w (convert src dst p) K:=by
 cases hy
 refine .of h (.str _ _) fun w'=>?_
 obtain ⟨d,hd'⟩:=Option.isSome_iff_exists.mp hs
 simp [convert,run_underlying hd',run_underlying hd]
theorem Qyq {src:TypeId} (hs:(P.underlying src).isSome=true) (hd:P.underlying dst=some .string) {n:Int} (hy:VR I ρ (.int kk n) p) (h0:0≤n∧n<128) (h:K (.str [UInt8.ofNat n.toNat])) :
 RdOk P I ρ S w (convert src dst p) K:=by
 cases hy
 obtain ⟨d,hd'⟩:=Option.isSome_iff_exists.mp hs
 have e:Utf8.encode n=⟨#[UInt8.ofNat n.toNat]⟩:=by
  have hv:Utf8.valid n=true:=by unfold Utf8.valid; simp; omega
  have h8:n.toNat<128:=by omega
  simp [Utf8.encode,hv,h8]
 refine .of h (.str _ _) fun w'=>?_
 simp [convert,run_underlying hd',run_underlying hd,Conv.intToString,e]
variable {fd:Field} {fs:Array Field}
theorem QAz {s:Nat} (hu:P.underlying s=some (.struct fs)) (hf:fs[f]?=some fd) (ho:fd.offset=off) (hz:szOf P fd.type=some sz) (h0:sz≠0) (hy:VR I ρ y p) 
 (h:Qlr off y K):RdOk P I ρ S w (Instr.fieldAt s p f) K:=by
 subst ho
 obtain ⟨i,hi,hs⟩:=Option.map_eq_some_iff.1 hz
 have key:∀ (b o:Nat) w',(Instr.fieldAt s (.pointer (some ⟨b,o,none⟩)) f).run P w'=.ok (.pointer (some ⟨b,o+fd.offset,none⟩)) w':=fun b o w'=>by
  have hne:¬ i.size=0:=by omega
  simp [Instr.fieldAt,run_underlying hu,hf,Instr.sureAddr,fieldPlace,sizeOf,typeInfo,hi,hne,Addr.add_mk]
 cases hy with
 | ptr _ _ _ o b e off' hn =>
   refine .of h (.ptr _ _ _ _ _ _ _ hn) fun w'=>?_
   rw [key]; simp [Nat.add_assoc]
 | ref _ _ _ b o f h1 h2 =>
   refine .of h (.ref _ _ _ _ _ f h1 h2) fun w'=>?_
   rw [key]; simp [Nat.add_assoc]
 | _=>exact h.elim
variable {cs:Array Value}
theorem Qm2 {t:TypeId} (hsz:szOf P t=some sz) (hag:Qav P t=some ag) (hl:off+sz≤cs.size) (h1:ag=false→sz=1) (w':World) :
 (part t cs off).run P w'=.ok (if ag then .agg (cs.extract off (off+sz)) else cs.getD off undef) w':=by
 obtain ⟨i,hi,rfl⟩:=Option.map_eq_some_iff.1 hsz
 obtain ⟨d,hd,hd2⟩:=Option.map_eq_some_iff.1 hag
 have hag':(isAgg t).run P w'=.ok ag w':=by
  unfold isAgg
  simp only [Sem.run_bind,run_underlying hd,Result.andThen]
  subst hd2
  cases d <;> rfl
 unfold part
 simp only [Sem.run_bind,hag',Result.andThen]
 cases ag with
 | true=>simp [sizeOf,typeInfo,hi]
 | false =>
   have:=h1 rfl
   have ho:off<cs.size:=by omega
   simp [Array.getElem?_eq_getElem ho]
theorem Qw1 {t:TypeId} (hsz:szOf P t=some sz) (hag:Qav P t=some ag) (hll:l.length=cs.size) (hv:∀ (j:Nat) (v:V) (x:Value),l[j]?=some v→cs[j]?=some x→VR I ρ v x)
 (hl:off+sz≤l.length) (h1:ag=false→sz=1):∃ x,VR I ρ (Qc7 ag off sz l) x∧∀ w',(part t cs off).run P w'=.ok x w':=by
 refine ⟨_,?_,Qm2 hsz hag (hll▸hl) h1⟩
 have hf:∀ j c,l[j]?=some c→VR I ρ c (cs.getD j undef):=fun j c hc=>by
  have hj:j<cs.size:=hll▸(List.getElem?_eq_some_iff.1 hc).1
  have:=hv j c cs[j] hc (Array.getElem?_eq_getElem hj)
  simpa [Array.getD,hj] using this
 have:=Qdx hf hl h1
 cases ag with
 | true =>
   have he:cs.extract off (off+sz)=((List.range sz).map fun j=>cs.getD (off+j) undef).toArray:=by
    apply Array.ext
    ·simp; omega
    ·intro i h2 h3
     simp at h2
     simp [Array.getD,show off+i<cs.size by omega]
   simpa [he] using this
 | false=>simpa using this
theorem QAy {s:Nat} (hu:P.underlying s=some (.struct fs)) (hf:fs[f]?=some fd) (ho:fd.offset=off) (hz:szOf P fd.type=some sz) (hag:Qav P fd.type=some ag) (hy:VR I ρ (.agg l) p) 
 (h:XU (off+sz≤l.length∧(ag=false→sz=1)) (K (Qc7 ag off sz l))):RdOk P I ρ S w (Instr.field s p f) K:=by
 subst ho
 obtain ⟨⟨hl,h1⟩,hk⟩:=h
 cases hy with
 | agg _ _ cs hll hv =>
   obtain ⟨x,hx,hr⟩:=Qw1 (P:=P) hz hag hll hv hl h1
   refine .of hk hx fun w'=>?_
   simp [Instr.field,run_underlying hu,hf,asAgg,hr]
theorem Qtl {alen:Option Nat} {d:TypeDesc} (hu:P.underlying t=some d) (hd:(d=.slice e∧alen=none)∨∃ m,d=.array m e∧alen=some m) (hz:szOf P e=some sz) (hy:VR I ρ y p) (hq:VR I ρ z q) 
 (h:QiW sz alen y z K):RdOk P I ρ S w (Instr.indexAt t p q) K:=by
 obtain ⟨inf,hi,rfl⟩:=Option.map_eq_some_iff.1 hz
 rcases hd with ⟨rfl,rfl⟩ | ⟨m,rfl,rfl⟩
 ·have key:∀ (b o len cap:Nat) (k:IntKind) (i:Int) w',0≤i→i.toNat<len→(Instr.indexAt t (.slice (some ⟨b,o,none⟩) len cap) (.int k i)).run P w'=.ok (.pointer (some ⟨b,o+i.toNat * inf.size,none⟩)) w':=fun b o len cap k i w' h1 h2=>by
   have hlt:i<len:=by omega
   simp [Instr.indexAt,asIntOf,run_underlying hu,h1,hlt,sizeOf,typeInfo,hi,Addr.add_mk]
  cases hq with
  | int _ k i =>
    cases hy with
    | lst _ _ _ _ b o cap f g0 g1 g2 g3 g4 g5 =>
      obtain ⟨⟨h1,h2,rfl⟩,hk⟩:=h
      refine .of hk ?_ fun w'=>key _ _ _ _ _ _ _ h1 h2
      exact .ref _ _ 0 b (o+i.toNat * inf.size) (f i.toNat) (fun j c hc=>g4 _ _ (QbQ h2) j c hc) (fun j c hc=>g5 _ _ (QbQ h2) j c hc)
    | lstN=>obtain ⟨⟨h1,h2,_⟩,hk⟩:=h; simp at h2
    | sl _ _ _ _ _ _ _ b o e cap hn g1 g2 g3 =>
      obtain ⟨⟨h1,h2,rfl⟩,hk⟩:=h
      refine .of hk (.ptr _ _ _ _ b o e hn) fun w'=>?_
      rw [key _ _ _ _ _ _ _ h1 (by omega)]; simp [Nat.add_assoc]
    | slN=>obtain ⟨⟨h1,h2,_⟩,hk⟩:=h; simp at h2
    | _=>exact h.elim
  | _=>cases hy <;> exact h.elim
 ·have key:∀ (b o:Nat) (k:IntKind) (i:Int) w',0≤i→i.toNat<m→(Instr.indexAt t (.pointer (some ⟨b,o,none⟩)) (.int k i)).run P w'=.ok (.pointer (some ⟨b,o+i.toNat * inf.size,none⟩)) w':=fun b o k i w' h1 h2=>by
   have hlt:i<m:=by omega
   simp [Instr.indexAt,asIntOf,run_underlying hu,h1,hlt,sizeOf,typeInfo,hi,Addr.add_mk,Instr.sureAddr]
  cases hq with
  | int _ k i =>
    cases hy with
    | ptr _ _ _ _ b o e hn =>
      obtain ⟨⟨h1,h2⟩,hk⟩:=h
      refine .of hk (.ptr _ _ _ _ b o e hn) fun w'=>?_
      rw [key _ _ _ _ _ h1 h2]; simp [Nat.add_assoc]
    | ref _ _ _ b o f g1 g2 =>
      obtain ⟨⟨h1,h2⟩,hk⟩:=h
      refine .of hk (.ref _ _ _ b o f g1 g2) fun w'=>?_
      rw [key _ _ _ _ _ h1 h2]; simp [Nat.add_assoc]
    | _=>exact h.elim
  | _=>cases hy <;> exact h.elim
theorem QMA {len:Nat} (hu:P.underlying t=some (.array len e)) (hz:szOf P e=some sz) (hag:Qav P e=some ag) (hy:VR I ρ (.agg l) p) (hq:VR I ρ (.int k i) q) 
 (h:XU (0≤i∧i.toNat<len∧i.toNat * sz+sz≤l.length∧(ag=false→sz=1)) (K (Qc7 ag (i.toNat * sz) sz l))):RdOk P I ρ S w (Instr.index t p q) K:=by
 obtain ⟨⟨h1,h2,hl,h3⟩,hk⟩:=h
 cases hq
 cases hy with
 | agg _ _ cs hll hv =>
   obtain ⟨x,hx,hr⟩:=Qw1 (P:=P) hz hag hll hv hl h3
   refine .of hk hx fun w'=>?_
   obtain ⟨inf,hi,rfl⟩:=Option.map_eq_some_iff.1 hz
   have hlt:i<len:=by omega
   simp [Instr.index,asIntOf,run_underlying hu,h1,hlt,sizeOf,typeInfo,hi,hr]
theorem QKH (hu:P.underlying t=some .string) {s:List UInt8} (hy:VR I ρ (.str s) p) (hq:VR I ρ (.int k i) q) 
 (h:XU (0≤i∧i.toNat<s.length) (K (.int .u8 (s.getD i.toNat 0).toNat))):RdOk P I ρ S w (Instr.index t p q) K:=by
 obtain ⟨⟨h1,h2⟩,hk⟩:=h
 cases hq
 cases hy
 refine .of hk (.int _ _ _) fun w'=>?_
 have hs:(⟨s.toArray⟩:ByteArray)[i.toNat]?=some (s.getD i.toNat 0):=by
  rw [Go.ByteArray.getElem?_lt' _ _ (by simpa [ByteArray.size] using h2)]
  simp [List.getD,List.getElem?_eq_getElem h2]
  rfl
 simp [Instr.index,asIntOf,run_underlying hu,h1,hs]
variable {lo hi:Option Operand}
theorem Qdk {G:Nat→Option V} {σ:H} {fr:Fr} {n:Nat} {a:Act} (hR:Rel G I ρ σ w) (hF:FR I ρ n fr a) {len L:Nat} {K:Nat→Nat→Prop} (hc:L≤cap) (hL:hi=none→L=len) (hlc:L≤cap)
 (h:Q0 G fr L (lo.map Qa) (hi.map Qa) K):∃ b e,K b e∧b≤e∧e≤L∧∀ w',(Instr.sliceBounds isS len cap (lo.map a.eval) (hi.map a.eval) none).run P w'=.ok (b,e,cap) w':=by
 have hb:∀ (x:Operand) {k:IntKind} {m:Int},arg G fr (Qa x)=.int k m→a.eval x=.int k m:=fun x k m e=>by
  have:=QF hR hF x
  rw [e] at this
  generalize a.eval x=z at this
  cases this
  rfl
 cases lo with
 | none =>
   cases hi with
   | none =>
     have:=hL rfl
     subst this
     exact ⟨0,L,h,by omega,Nat.le_refl _,fun w'=>by simp [Instr.sliceBounds]⟩
   | some y =>
     simp only [Q0,Option.map_none,Option.map_some] at h
     split at h <;> (try exact h.elim) <;> (rename_i e1 e2; first | (cases e1; done) | (cases e2; done) | skip)
     ·rename_i k m
      obtain ⟨⟨h1,h2⟩,hk⟩:=h
      simp only [Option.some.injEq] at e2
      refine ⟨0,m.toNat,hk,by omega,h2,fun w'=>?_⟩
      have hle:m≤cap:=by omega
      simp [Instr.sliceBounds,Instr.sliceBound,hb y e2,asIntOf,h1,hle]
 | some x =>
   cases hi with
   | none =>
     have:=hL rfl
     subst this
     simp only [Q0,Option.map_none,Option.map_some] at h
     split at h <;> (try exact h.elim) <;> (rename_i e1 e2; first | (cases e1; done) | (cases e2; done) | skip)
     ·rename_i k m
      obtain ⟨⟨h1,h2⟩,hk⟩:=h
      simp only [Option.some.injEq] at e1
      refine ⟨m.toNat,L,hk,h2,Nat.le_refl _,fun w'=>?_⟩
      have hle:m≤L:=by omega
      simp [Instr.sliceBounds,Instr.sliceBound,hb x e1,asIntOf,h1,hle]
   | some y =>
     simp only [Q0,Option.map_some] at h
     split at h <;> (try exact h.elim) <;> (rename_i e1 e2; first | (cases e1; done) | (cases e2; done) | skip)
     ·rename_i k m k' m'
      obtain ⟨⟨h1,h2,h3⟩,hk⟩:=h
      simp only [Option.some.injEq] at e1 e2
      refine ⟨m.toNat,m'.toNat,hk,by omega,h3,fun w'=>?_⟩
      have g1:0≤m':=by omega
      have g2:m'≤cap:=by omega
      have g4:¬ (max m' 0<m):=by omega
      simp [Instr.sliceBounds,Instr.sliceBound,hb x e1,hb y e2,asIntOf,h1,g1,g2,g4]
theorem QkA {G:Nat→Option V} {σ:H} {fr:Fr} {n:Nat} {a:Act} (hR:Rel G I ρ σ w) (hF:FR I ρ n fr a) (e:arg G fr (Qa x)=.int k m):a.eval x=.int k m:=by
 have:=QF hR hF x
 rw [e] at this
 generalize a.eval x=z at this
 cases this
 rfl
theorem QfY {G:Nat→Option V} {σ:H} {fr:Fr} {n:Nat} {a:Act} (hR:Rel G I ρ σ w) (hF:FR I ρ n fr a) {len:Nat} {y:Operand} {mx:Operand} {K:Nat→Nat→Prop}
 (hm:arg G fr (Qa mx)=.int k m) (h0:0≤m) (hc:m.toNat≤cap)
 (h:Q0 G fr m.toNat (lo.map Qa) (some (Qa y)) K):∃ b e,K b e∧b≤e∧e≤m.toNat∧∀ w',(Instr.sliceBounds isS len cap (lo.map a.eval) (some (a.eval y)) (some (a.eval mx))).run P w'=.ok (b,e,m.toNat) w':=by
 have hmx:=QkA hR hF hm
 have hmc:m≤cap:=by omega
 cases lo with
 | none =>
   simp only [Q0,Option.map_none,Option.map_some] at h
   split at h <;> (try exact h.elim) <;> (rename_i e1 e2; first | (cases e1; done) | (cases e2; done) | skip)
   ·rename_i k' m'
    obtain ⟨⟨h1,h2⟩,hk⟩:=h
    simp only [Option.some.injEq] at e2
    refine ⟨0,m'.toNat,hk,by omega,h2,fun w'=>?_⟩
    have hle:m'≤max m 0:=by omega
    simp [Instr.sliceBounds,Instr.sliceBound,hmx,QkA hR hF e2,asIntOf,h0,hmc,h1,hle]
 | some x =>
   simp only [Q0,Option.map_some] at h
   split at h <;> (try exact h.elim) <;> (rename_i e1 e2; first | (cases e1; done) | (cases e2; done) | skip)
   ·rename_i k1 m1 k2 m2
    obtain ⟨⟨h1,h2,h3⟩,hk⟩:=h
    simp only [Option.some.injEq] at e1 e2
    refine ⟨m1.toNat,m2.toNat,hk,by omega,h3,fun w'=>?_⟩
    have g1:0≤m2:=by omega
    have g3:¬ (max m 0<m2):=by omega
    have g4:¬ (max m2 0<m1):=by omega
    have g5:m2≤max m 0:=by omega
    have g6:m1≤max m2 0:=by omega
    simp [Instr.sliceBounds,Instr.sliceBound,hmx,QkA hR hF e1,QkA hR hF e2,asIntOf,h0,hmc,h1,g1,g5,g6]
theorem ssl_ok {G:Nat→Option V} {σ:H} {fr:Fr} {n:Nat} {a:Act} (hR:Rel G I ρ σ w) (hF:FR I ρ n fr a) (hu:P.underlying t=some .string) 
 (h:evR G fr σ K (.ssl (Qa x) (lo.map Qa) (hi.map Qa))):RdOk P I ρ S w (Instr.sliceAt t (a.eval x) (lo.map a.eval) (hi.map a.eval) none) K:=by
 have hx:=QF hR hF x
 simp only [evR] at h
 generalize arg G fr (Qa x)=y at h hx
 generalize a.eval x=p at hx ⊢
 cases hx with
 | str _ s =>
   obtain ⟨b,e,hk,h1,h2,hr⟩:=Qdk (P:=P) hR hF (isS:=false) (len:=s.length) (cap:=s.length) (Nat.le_refl _) (fun _=>rfl) (Nat.le_refl _) h
   refine .of hk (.str _ _) fun w'=>?_
   have:(⟨s.toArray⟩:ByteArray).size=s.length:=by simp [ByteArray.size]
   simp [Instr.sliceAt,Instr.slice,run_underlying hu,this,hr]
   have hd:∀ (x y:ByteArray),x.data=y.data→x=y:=fun x y h=>by cases x; cases y; cases h; rfl
   apply hd
   simp
 | _=>exact h.elim
theorem Qtb {b o:Nat} {f:Nat→Nat→Value} (g3:∀ (j:Nat) (v:V),l[j]?=some v→v.cells.length=sz) (g4:∀ (j:Nat) (v:V),l[j]?=some v→∀ (i:Nat) (c:V),v.cells[i]?=some c→I b (o+j * sz+i)=some (f j i))
 (g5:∀ (j:Nat) (v:V),l[j]?=some v→∀ (i:Nat) (c:V),v.cells[i]?=some c→VR I noNames c (f j i)) {x y c':Nat} {tight:Bool} (hxy:x<y) (hy:y≤l.length) (hc:y - x≤c') (ht:tight=true→c'=y - x) :
 VR I ρ (.lst sz ((l.drop x).take (y - x)) tight) (.slice (some ⟨b,o+x * sz,none⟩) (y - x) c'):=by
 have hlen:((l.drop x).take (y - x)).length=y - x:=by simp; omega
 have hget:∀ j v,((l.drop x).take (y - x))[j]?=some v→l[x+j]?=some v:=fun j v hj=>by
  simp only [List.getElem?_take,List.getElem?_drop] at hj
  split at hj
  ·exact hj
  ·cases hj
 have:=VR.lst (I:=I) ρ sz ((l.drop x).take (y - x)) tight b (o+x * sz) c' (fun j i=>f (x+j) i) (fun e=>by rw [e] at hlen; simp at hlen; omega) (by omega) (fun h=>by rw [hlen]; exact ht h)
  (fun j v hj=>g3 _ _ (hget j v hj)) (fun j v hj i c hc=>by
   have:=g4 _ _ (hget j v hj) i c hc
   rwa [Nat.add_mul,← Nat.add_assoc] at this) (fun j v hj i c hc=>g5 _ _ (hget j v hj) i c hc)
 rwa [hlen] at this
theorem slc_ok {G:Nat→Option V} {σ:H} {fr:Fr} {n:Nat} {a:Act} (hR:Rel G I ρ σ w) (hF:FR I ρ n fr a) (hu:P.underlying t=some (.slice e)) (hz:szOf P e=some sz) 
 (h:evR G fr σ K (.slc sz (Qa x) (lo.map Qa) (hi.map Qa) none)):RdOk P I ρ S w (Instr.sliceAt t (a.eval x) (lo.map a.eval) (hi.map a.eval) none) K:=by
 obtain ⟨inf,hin,rfl⟩:=Option.map_eq_some_iff.1 hz
 have hx:=QF hR hF x
 simp only [evR] at h
 generalize arg G fr (Qa x)=y at h hx
 generalize a.eval x=p at hx ⊢
 cases hx with
 | lst _ s l tight b o cap f g0 g1 g2 g3 g4 g5 =>
   obtain ⟨u,v,hk,h1,h2,hr⟩:=Qdk (P:=P) hR hF (isS:=true) (len:=l.length) (cap:=cap) (by omega) (fun _=>rfl) (by omega) h
   by_cases huv:u=v
   ·subst huv
    refine .of hk.2 (v:=.lst s ((l.drop u).take (u - u)) (tight&&decide (u=l.length))) (x:=.slice (if cap=u then some ⟨b,o,none⟩ else some ⟨b,o+u * inf.size,none⟩) 0 (cap - u)) ?_ fun w'=>?_
    ·rw [Nat.sub_self,List.take_zero]
     refine .lstN _ _ _ _ _ fun ht=>?_
     simp only [Bool.and_eq_true,decide_eq_true_eq] at ht
     have:=g2 ht.1
     omega
    ·simp [Instr.sliceAt,Instr.slice,run_underlying hu,hr,sizeOf,typeInfo,hin,Addr.add_mk]
   ·have hs:s=inf.size:=hk.1.resolve_right g0
    subst hs
    refine .of hk.2 (Qtb (c':=cap - u) g3 g4 g5 (by omega) h2 (by omega) fun ht=>?_) fun w'=>?_
    ·simp only [Bool.and_eq_true,decide_eq_true_eq] at ht
     have:=g2 ht.1
     omega
    ·have hne:¬ cap=u:=by omega
     simp [Instr.sliceAt,Instr.slice,run_underlying hu,hr,sizeOf,typeInfo,hin,Addr.add_mk,hne]
 | lstN _ s tight ad cap hc0 =>
   obtain ⟨u,v,hk,h1,h2,hr⟩:=Qdk (P:=P) hR hF (isS:=true) (len:=0) (cap:=cap) (by simp) (fun _=>rfl) (by simp) h
   simp at h2
   subst h2
   have:u=0:=by omega
   subst this
   refine .of hk.2 (v:=_) (x:=.slice ad 0 cap) ?_ fun w'=>?_
   ·simp only [List.drop_nil,List.take_nil,List.length_nil,decide_true,Bool.and_true]
    exact .lstN _ _ _ _ _ hc0
   ·simp [Instr.sliceAt,Instr.slice,run_underlying hu,hr,sizeOf,typeInfo,hin]
    cases ad <;> simp [Addr.add]
 | sl _ nm v off s len lim b o e cap hn g1 g2 g3 =>
   obtain ⟨u,v',hk,h1,h2,hr⟩:=Qdk (P:=P) hR hF (isS:=true) (len:=len) (cap:=cap) g1 (fun _=>rfl) g1 h
   obtain ⟨⟨rfl,h3⟩,hk⟩:=hk
   have hne:¬ (cap=u∧u≠0):=by omega
   refine .of hk (.sl _ _ _ _ _ _ _ b o e (cap - u) hn (by omega) (fun m hm=>?_) (fun hm=>?_)) fun w'=>?_
   ·obtain ⟨m',hm',rfl⟩:=Option.map_eq_some_iff.1 hm
    obtain ⟨rfl,g⟩:=g2 m' hm'
    refine ⟨rfl,?_⟩
    have:u * inf.size+(cap - u) * inf.size=cap * inf.size:=by rw [← Nat.add_mul]; congr 1; omega
    omega
   ·have hl:lim=none:=by cases lim with | none=>rfl | some=>simp at hm
    have:=g3 hl
    have:u * inf.size+(cap - u) * inf.size=cap * inf.size:=by rw [← Nat.add_mul]; congr 1; omega
    omega
   ·simp [Instr.sliceAt,Instr.slice,run_underlying hu,hr,sizeOf,typeInfo,hin,Addr.add_mk]
    by_cases hcu:cap=u
    ·have:u=0:=by omega
     simp [hcu,this]
    ·simp [hcu,Nat.add_assoc]
 | slN _ nm v s lim ad hn hl0 =>
   obtain ⟨u,v',hk,h1,h2,hr⟩:=Qdk (P:=P) hR hF (isS:=true) (len:=0) (cap:=0) (by simp) (fun _=>rfl) (by simp) h
   obtain ⟨⟨rfl,h3⟩,hk⟩:=hk
   have hv:v'=0:=by omega
   have hu0:u=0:=by omega
   subst hv; subst hu0
   refine .of hk (x:=.slice ad 0 0) ?_ fun w'=>?_
   ·simp only [Nat.zero_mul,Nat.add_zero,Nat.sub_self]
    refine .slN _ _ _ _ _ _ hn fun m hm=>?_
    obtain ⟨m',hm',rfl⟩:=Option.map_eq_some_iff.1 hm
    exact hl0 m' hm'
   ·simp [Instr.sliceAt,Instr.slice,run_underlying hu,hr,sizeOf,typeInfo,hin]
 | _=>exact h.elim
theorem QKG {G:Nat→Option V} {σ:H} {fr:Fr} {n:Nat} {a:Act} (hR:Rel G I ρ σ w) (hF:FR I ρ n fr a) (hu:P.underlying t=some (.slice e)) (hz:szOf P e=some sz) {hi mx:Operand} 
 (h:evR G fr σ K (.slc sz (Qa x) (lo.map Qa) (some (Qa hi)) (some (Qa mx)))):RdOk P I ρ S w (Instr.sliceAt t (a.eval x) (lo.map a.eval) (some (a.eval hi)) (some (a.eval mx))) K:=by
 obtain ⟨inf,hin,rfl⟩:=Option.map_eq_some_iff.1 hz
 have hx:=QF hR hF x
 simp only [evR] at h
 generalize hm:arg G fr (Qa mx)=z at h
 generalize arg G fr (Qa x)=y at h hx
 generalize a.eval x=p at hx ⊢
 split at h <;> (try exact h.elim)
 ·rename_i k m s l tight
  cases hx with
  | lst _ _ _ _ b o cap f g0 g1 g2 g3 g4 g5 =>
    by_cases hmm:0≤m∧m.toNat≤cap
    ·obtain ⟨u,v,hk,h1,h2,hr⟩:=QfY (P:=P) hR hF (isS:=true) (len:=l.length) (cap:=cap) hm hmm.1 hmm.2 h
     obtain ⟨⟨c1,c2,c3⟩,hk⟩:=hk
     have hs:s=inf.size:=c3.resolve_right g0
     subst hs
     by_cases huv:u=v
     ·subst huv
      refine .of hk (x:=.slice (if m.toNat=u then some ⟨b,o,none⟩ else some ⟨b,o+u * inf.size,none⟩) 0 (m.toNat - u)) ?_ fun w'=>?_
      ·rw [Nat.sub_self,List.take_zero]
       refine .lstN _ _ _ _ _ fun ht=>?_
       simp only [decide_eq_true_eq] at ht
       omega
      ·simp [Instr.sliceAt,Instr.slice,run_underlying hu,hr,sizeOf,typeInfo,hin,Addr.add_mk]
     ·refine .of hk (Qtb (c':=m.toNat - u) g3 g4 g5 (by omega) (by omega) (by omega) fun ht=>?_) fun w'=>?_
      ·simp only [decide_eq_true_eq] at ht
       omega
      ·have hne:¬ m.toNat=u:=by omega
       simp [Instr.sliceAt,Instr.slice,run_underlying hu,hr,sizeOf,typeInfo,hin,Addr.add_mk,hne]
    ·exfalso
     have:∀ u v,¬ (XU (0≤m∧m.toNat≤l.length∧(s=inf.size∨l=[])) (K (.lst s ((l.drop u).take (v - u)) (decide (v=m.toNat))))):=fun u v hh=>hmm ⟨hh.1.1,by have:=hh.1.2.1; omega⟩
     unfold Q0 at h
     split at h <;> first | exact this _ _ h | exact this _ _ h.2 | exact h
  | lstN _ _ _ ad cap hc0 =>
    by_cases hmm:0≤m∧m.toNat≤cap
    ·obtain ⟨u,v,hk,h1,h2,hr⟩:=QfY (P:=P) hR hF (isS:=true) (len:=0) (cap:=cap) hm hmm.1 hmm.2 h
     obtain ⟨⟨c1,c2,c3⟩,hk⟩:=hk
     simp at c2
     have hv:v=0:=by omega
     have hu0:u=0:=by omega
     subst hv; subst hu0
     have hm0:m.toNat=0:=by omega
     refine .of hk (x:=.slice ad 0 0) ?_ fun w'=>?_
     ·simp only [List.drop_nil,List.take_nil]
      exact .lstN _ _ _ _ _ fun _=>rfl
     ·simp [Instr.sliceAt,Instr.slice,run_underlying hu,hr,sizeOf,typeInfo,hin,hm0]
    ·exfalso
     have:∀ u v,¬ (XU (0≤m∧m.toNat≤([]:List V).length∧(s=inf.size∨([]:List V)=[])) (K (.lst s ((([]:List V).drop u).take (v - u)) (decide (v=m.toNat))))):=fun u v hh=>hmm ⟨hh.1.1,by have:=hh.1.2.1; simp at this; omega⟩
     unfold Q0 at h
     split at h <;> first | exact this _ _ h | exact this _ _ h.2 | exact h
 ·rename_i k m nm v off s len lim
  have hno:∀ cap,len≤cap→¬ (0≤m∧m.toNat≤cap)→False:=fun cap hlc hmm=>by
   have:∀ u v',¬ (XU (s=inf.size∧(u=0∨u<v')∧0≤m∧m.toNat≤len) (K (.sl nm v (off+u * inf.size) s (v' - u) (some (m.toNat - u))))):=fun u v' hh=>hmm ⟨hh.1.2.2.1,by have:=hh.1.2.2.2; omega⟩
   unfold Q0 at h
   split at h <;> first | exact this _ _ h | exact this _ _ h.2 | exact h
  cases hx with
  | sl _ _ _ _ _ _ _ b o e' cap hn g1 g2 g3 =>
    by_cases hmm:0≤m∧m.toNat≤cap
    ·obtain ⟨u,v',hk,h1,h2,hr⟩:=QfY (P:=P) hR hF (isS:=true) (len:=len) (cap:=cap) hm hmm.1 hmm.2 h
     obtain ⟨⟨rfl,c1,c2,c3⟩,hk⟩:=hk
     refine .of hk (.sl _ _ _ _ _ _ _ b o e' (m.toNat - u) hn (by omega) (fun m' hm'=>?_) (fun hm'=>by cases hm')) fun w'=>?_
     ·simp only [Option.some.injEq] at hm'
      refine ⟨hm',?_⟩
      have e1:u * inf.size+(m.toNat - u) * inf.size=m.toNat * inf.size:=by rw [← Nat.add_mul]; congr 1; omega
      have e2:m.toNat * inf.size≤cap * inf.size:=Nat.mul_le_mul_right _ hmm.2
      have e3:o+off+cap * inf.size≤e':=by
       cases lim with
       | none=>exact Nat.le_of_eq (g3 rfl)
       | some x=>obtain ⟨rfl,g⟩:=g2 x rfl; exact g
      subst hm'
      omega
     ·simp [Instr.sliceAt,Instr.slice,run_underlying hu,hr,sizeOf,typeInfo,hin,Addr.add_mk]
      by_cases hcu:m.toNat=u
      ·have:u=0:=by omega
       simp [hcu,this]
      ·simp [hcu,Nat.add_assoc]
    ·exact (hno cap g1 hmm).elim
  | slN _ _ _ _ _ ad hn hl0 =>
    by_cases hmm:0≤m∧m.toNat≤0
    ·obtain ⟨u,v',hk,h1,h2,hr⟩:=QfY (P:=P) hR hF (isS:=true) (len:=0) (cap:=0) hm hmm.1 hmm.2 h
     obtain ⟨⟨rfl,c1,c2,c3⟩,hk⟩:=hk
     have hv:v'=0:=by omega
     have hu0:u=0:=by omega
     have hm0:m.toNat=0:=by omega
     subst hv; subst hu0
     refine .of hk (x:=.slice ad 0 0) ?_ fun w'=>?_
     ·simp only [Nat.zero_mul,Nat.add_zero,Nat.sub_self]
      refine .slN _ _ _ _ _ _ hn fun m' hm'=>?_
      simp only [Option.some.injEq] at hm'
      omega
     ·simp [Instr.sliceAt,Instr.slice,run_underlying hu,hr,sizeOf,typeInfo,hin,hm0]
    ·exact (hno 0 (Nat.le_refl _) hmm).elim
end
def flatK (P:Program):Nat→TypeId→Option (List Kd)
 | 0,_=>none
 | n+1,t=>match P.underlying t with
   | some .bool=>some [.b]
   | some (.int _)=>some [.i]
   | some .string=>some [.s]
   | some (.struct fs)=>if P.stoodInHeld t then none else
     fs.toList.foldlM (fun ks f => if f.name ≠ "_" ∧ f.offset = ks.length ∧ (szOf P f.type).isSome ∧ (Qav P f.type).isSome then
      match flatK P n f.type with
      | some k=>if szOf P f.type=some k.length∧(Qav P f.type=some false→k.length=1) then some (ks++k) else none
      | none=>none else none) []
   | _=>none
variable {P:Program} {I:Imm} {ρ:Names}
def QgO (P:Program) (t:TypeId) (c:Array Value):Value:=if Qav P t=some true then .agg c else c.getD 0 undef
def Cells (I:Imm) (ρ:Names) (l:List V) (c:Array Value):Prop:=l.length=c.size∧∀ (j:Nat) (v:V) (x:Value),l[j]?=some v→c[j]?=some x→VR I ρ v x
theorem QuB {ks ks':List Kd}:∀ {l m:List V} {b:Bool},Qbo (ks++ks') l m=some b→∃ b1 b2,Qbo ks (l.take ks.length) (m.take ks.length)=some b1∧Qbo ks' (l.drop ks.length) (m.drop ks.length)=some b2∧b=(b1&&b2)∧ks.length≤l.length∧ks.length≤m.length:=by
 induction ks with
 | nil=>intro l m b h; exact ⟨true,b,by simp [Qbo],by simpa using h,by simp,by simp,by simp⟩
 | cons k ks ih =>
   intro l m b h
   cases l with
   | nil=>simp [Qbo] at h
   | cons a l =>
     cases m with
     | nil=>simp [Qbo] at h
     | cons a' m =>
       simp only [List.cons_append,Qbo] at h
       split at h
       ·rename_i x y hx hy
        obtain ⟨b1,b2,h1,h2,h3,h4,h5⟩:=ih hy
        refine ⟨x&&b1,b2,by simp [Qbo,hx,h1],by simpa using h2,?_,by simp; omega,by simp; omega⟩
        simp only [Option.some.injEq] at h
        rw [← h,h3,Bool.and_assoc]
       ·cases h
theorem Cells.take {l:List V} {c:Array Value} (h:Cells I ρ l c) (off k:Nat) (hk:off+k≤l.length):Cells I ρ ((l.drop off).take k) (c.extract off (off+k)):=by
 obtain ⟨h1,h2⟩:=h
 refine ⟨by simp; omega,fun j v x hj hx=>?_⟩
 simp only [List.getElem?_take,List.getElem?_drop] at hj
 split at hj
 ·rw [Array.getElem?_extract] at hx
  split at hx
  ·exact h2 _ _ _ hj hx
  ·cases hx
 ·cases hj
theorem bytes_beq (a b:List UInt8):((⟨a.toArray⟩:ByteArray)==(⟨b.toArray⟩:ByteArray))=(a==b):=by
 show (a.toArray==b.toArray)=(a==b)
 simp
variable {t:TypeId} {d:Nat}
theorem QpG {k:Kd} (hk:flatK P (d+1) t=some [k]) (hs:Qav P t=some false) {v v':V} {x x':Value} {b:Bool} (hv:VR I ρ v x) (hv':VR I ρ v' x') (hb:QnM k v v'=some b) (w:World) :
 (Op.equalIn (d+1) t x x').run P w=.ok b w:=by
 obtain ⟨ds,hds,h0⟩:=Option.map_eq_some_iff.1 hs
 simp only [flatK,hds] at hk
 cases ds <;> simp only [reduceCtorEq,Option.some.injEq,List.cons.injEq,and_true] at hk <;> (try (simp [QyY] at h0; done))
 all_goals subst hk
 all_goals (cases v <;> cases v' <;> simp only [QnM,reduceCtorEq] at hb)
 ·cases hb; cases hv; cases hv'
  simp [Op.equalIn,run_underlying hds]
 ·split at hb
  ·rename_i h; subst h; cases hb; cases hv; cases hv'
   simp [Op.equalIn,run_underlying hds]
  ·cases hb
 ·cases hb; cases hv; cases hv'
  simp only [Op.equalIn,Sem.run_bind,run_underlying hds,Result.andThen]
  rw [bytes_beq]; rfl
theorem QpH (P : Program) (d : Nat) (xs ys : Array Value) : ∀ (fs : List Field) (r : Bool) (w : World), (∀ f ∈ fs, f.name ≠ "_") →
 (∃ bs:List Bool,bs.length=fs.length∧r=bs.all id∧∀ (j:Nat) (f:Field) (b:Bool),fs[j]?=some f→bs[j]?=some b→((do Op.equalIn d f.type (← part f.type xs f.offset) (← part f.type ys f.offset)):Sem Bool).run P w=.ok b w) →
 ((do
   for f in fs do
    if f.name ≠ "_" then
     if !(← Op.equalIn d f.type (← part f.type xs f.offset) (← part f.type ys f.offset)) then return false
   pure true):Sem Bool).run P w=.ok r w:=by
 intro fs
 induction fs with
 | nil=>intro r w _ ⟨bs,hl,hr,_⟩; cases bs with | nil=>simp [hr] | cons=>simp at hl
 | cons f fs ih =>
   intro r w hn ⟨bs,hl,hr,hb⟩
   cases bs with
   | nil=>simp at hl
   | cons b bs =>
     have h0:=hb 0 f b rfl rfl
     have hf:=hn f (List.mem_cons_self ..)
     have hrest:(bs.all id=(bs.all id)):=rfl
     have h1:=ih (bs.all id) w (fun g hg=>hn g (List.mem_cons_of_mem _ hg)) ⟨bs,by simpa using hl,rfl,fun j g b' hg hb'=>hb (j+1) g b' (by simpa using hg) (by simpa using hb')⟩
     simp only [Sem.run_bind] at h0 h1 ⊢
     simp only [List.forIn_cons,if_pos hf,Sem.run_bind]
     cases e1:(part f.type xs f.offset).run P w with
     | halt x w1=>simp [e1,Result.andThen] at h0
     | ok v1 w1 =>
       simp only [e1,Result.andThen] at h0 ⊢
       cases e2:(part f.type ys f.offset).run P w1 with
       | halt x w2=>simp [e2] at h0
       | ok v2 w2 =>
         simp only [e2] at h0 ⊢
         simp only [h0]
         subst hr
         cases b with
         | false=>simp
         | true =>
           simp only [Bool.not_true,Bool.false_eq_true,if_false,Sem.run_pure,List.all_cons,id,Bool.true_and]
           exact h1
theorem flat_agg {ks:List Kd} (hk:flatK P d t=some ks) (hs:Qav P t=some false):∃ k,ks=[k]:=by
 obtain ⟨ds,hds,h0⟩:=Option.map_eq_some_iff.1 hs
 cases d with
 | zero=>simp [flatK] at hk
 | succ d =>
   simp only [flatK,hds] at hk
   cases ds <;> simp only [reduceCtorEq,Option.some.injEq] at hk <;> (try (simp [QyY] at h0; done)) <;> exact ⟨_,hk.symm⟩
theorem Qlo : ∀ (fs : List Field) (ks0 ks : List Kd), fs.foldlM (fun ks f => if f.name ≠ "_" ∧ f.offset = ks.length ∧ (szOf P f.type).isSome ∧ (Qav P f.type).isSome then
        match flatK P d f.type with
        | some k=>if szOf P f.type=some k.length∧(Qav P f.type=some false→k.length=1) then some (ks++k) else none
        | none=>none else none) ks0=some ks →
 (∀ f ∈ fs, f.name ≠ "_") ∧ ∃ parts : List (List Kd), parts.length = fs.length ∧ ks = ks0 ++ parts.flatten ∧
  ∀ (j:Nat) (f:Field) (k:List Kd),fs[j]?=some f→parts[j]?=some k→flatK P d f.type=some k∧szOf P f.type=some k.length∧(Qav P f.type).isSome∧(Qav P f.type=some false→k.length=1)∧f.offset=ks0.length+((parts.take j).flatten).length:=by
 intro fs
 induction fs with
 | nil=>intro ks0 ks h; simp at h; subst h; exact ⟨by simp,[],by simp,by simp,by simp⟩
 | cons f fs ih =>
   intro ks0 ks h
   simp only [List.foldlM_cons] at h
   split at h
   ·rename_i h1
    split at h
    ·rename_i k hk
     split at h
     ·rename_i h2
      obtain ⟨g1,parts,g2,g3,g4⟩:=ih _ _ h
      refine ⟨fun g hg=>by cases hg with | head=>exact h1.1 | tail _ hg=>exact g1 g hg,k::parts,by simp [g2],by simp [g3],fun j g k' hg hk'=>?_⟩
      cases j with
      | zero=>simp at hg hk'; subst hg; subst hk'; exact ⟨hk,h2.1,h1.2.2.2,h2.2,by simp [h1.2.1]⟩
      | succ j =>
        simp at hg hk'
        obtain ⟨a1,a2,a3,a4,a5⟩:=g4 j g k' hg hk'
        refine ⟨a1,a2,a3,a4,?_⟩
        simp [a5,Nat.add_assoc]
     ·simp at h
    ·simp at h
   ·simp at h
theorem QmC:∀ (parts:List (List Kd)) (l m:List V) (b:Bool),Qbo parts.flatten l m=some b →
 ∃ bs:List Bool,bs.length=parts.length∧b=bs.all id∧∀ (j:Nat) (k:List Kd) (b':Bool),parts[j]?=some k→bs[j]?=some b' →
   Qbo k ((l.drop ((parts.take j).flatten).length).take k.length) ((m.drop ((parts.take j).flatten).length).take k.length)=some b'∧((parts.take j).flatten).length+k.length≤l.length∧((parts.take j).flatten).length+k.length≤m.length:=by
 intro parts
 induction parts with
 | nil =>
   intro l m b h
   cases l <;> cases m <;> simp [Qbo] at h
   exact ⟨[],by simp,by simp [h],by simp⟩
 | cons k parts ih =>
   intro l m b h
   obtain ⟨b1,b2,h1,h2,h3,h4,h5⟩:=QuB (by simpa using h)
   obtain ⟨bs,g1,g2,g3⟩:=ih _ _ _ h2
   refine ⟨b1::bs,by simp [g1],by simp [h3,g2],fun j k' b' hk hb=>?_⟩
   cases j with
   | zero=>simp at hk hb; subst hk; subst hb; simp [h1,h4,h5]
   | succ j =>
     simp at hk hb
     obtain ⟨a1,a2,a3⟩:=g3 j k' b' hk hb
     simp only [List.drop_drop,List.length_drop] at a1 a2 a3
     simp only [List.take_succ_cons,List.flatten_cons,List.length_append]
     exact ⟨a1,by omega,by omega⟩
theorem Qmx:∀ (d:Nat) (t:TypeId) (ks:List Kd) (ag:Bool),flatK P d t=some ks→szOf P t=some ks.length→Qav P t=some ag→∀ (D:Nat),d≤D→∀ (l m:List V) (c e:Array Value) (b:Bool),Cells I ρ l c→Cells I ρ m e→Qbo ks l m=some b →
 ∀ w,(Op.equalIn D t (QgO P t c) (QgO P t e)).run P w=.ok b w:=by
 intro d
 induction d with
 | zero=>intro t ks ag hk; simp [flatK] at hk
 | succ d ih =>
   intro t ks ag hk hsz hag D hD l m c e b hl hm hb w
   obtain ⟨D,rfl⟩:∃ D',D=D'+1:=⟨D - 1,by omega⟩
   cases ag with
   | false =>
     obtain ⟨k,rfl⟩:=flat_agg hk hag
     have hk':flatK P (D+1) t=some [k]:=by
      obtain ⟨ds,hds,h0⟩:=Option.map_eq_some_iff.1 hag
      simp only [flatK,hds] at hk ⊢
      cases ds <;> simp_all [QyY]
     have h1:∀ (x:List V) (y:Array Value),Cells I ρ x y→x.length=1→∃ v u,x=[v]∧y.getD 0 undef=u∧VR I ρ v u:=fun x y hx hx1=>by
      match x,hx1 with
      | [v],_ =>
        refine ⟨v,_,rfl,rfl,?_⟩
        have hy:0<y.size:=by have:=hx.1; simp at this; omega
        have:=hx.2 0 v y[0] (by simp) (by simp [hy])
        simpa [hy] using this
     have hlen:l.length=1∧m.length=1:=by
      match l,m,hb with
      | [a],[a'],_=>exact ⟨rfl,rfl⟩
      | [],_,h=>simp [Qbo] at h
      | _::_::_,[],h=>simp [Qbo] at h
      | [_],[],h=>simp [Qbo] at h
      | a::a2::l,b1::m,h=>simp only [Qbo] at h; split at h <;> rename_i hh <;> (try cases h); cases m <;> simp [Qbo] at *
      | [a],b1::b2::m,h=>simp [Qbo] at h
     obtain ⟨v,u,rfl,hu,hvu⟩:=h1 l c hl hlen.1
     obtain ⟨v',u',rfl,hu',hvu'⟩:=h1 m e hm hlen.2
     simp only [QgO,hag,Option.some.injEq,Bool.false_eq_true,if_false,hu,hu']
     refine QpG hk' hag hvu hvu' ?_ w
     simp only [Qbo] at hb
     split at hb <;> (try cases hb)
     rename_i x y hx hy
     cases hy
     simpa using hx
   | true =>
     obtain ⟨ds,hds,h0⟩:=Option.map_eq_some_iff.1 hag
     simp only [flatK,hds] at hk
     cases ds <;> simp only [reduceCtorEq] at hk <;> (try (simp [QyY] at h0; done))
     rename_i fs
     split at hk
     ·cases hk
     ·rename_i hst
      obtain ⟨hn,parts,hp1,hp2,hp3⟩:=Qlo (P:=P) fs.toList [] ks hk
      simp only [List.nil_append] at hp2
      subst hp2
      obtain ⟨bs,hb1,hb2,hb3⟩:=QmC parts l m b hb
      have:=QpH P D c e fs.toList b w hn ⟨bs,by omega,hb2,fun j f b' hf hb'=>?_⟩
      ·simp only [QgO,hag,if_true]
       simp only [Op.equalIn,Sem.run_bind,run_underlying hds,Result.andThen,run_program]
       simp only [hst,Bool.false_eq_true,if_false]
       simp only [Array.forIn_toList] at this
       exact this
      ·have hjp:j<parts.length:=by have:=(List.getElem?_eq_some_iff.1 hb').1; omega
       obtain ⟨a1,a2,a3,a4,a5⟩:=hp3 j f parts[j] hf (List.getElem?_eq_getElem hjp)
       obtain ⟨c1,c2,c3⟩:=hb3 j parts[j] b' (List.getElem?_eq_getElem hjp) hb'
       obtain ⟨agf,hagf⟩:=Option.isSome_iff_exists.1 a3
       simp only [List.length_nil,Nat.zero_add] at a5
       have hpt:∀ (x:List V) (y:Array Value),Cells I ρ x y→f.offset+parts[j].length≤x.length→(part f.type y f.offset).run P w=.ok (QgO P f.type (y.extract f.offset (f.offset+parts[j].length))) w:=fun x y hx hle=>by
        rw [Qm2 (P:=P) a2 hagf (by have:=hx.1; omega) (fun h=>a4 (h▸hagf)) w]
        simp only [QgO,hagf,Option.some.injEq]
        cases agf with
        | true=>simp
        | false =>
          have:=a4 hagf
          have hs:f.offset<y.size:=by have:=hx.1; omega
          have h0:(y.extract f.offset (f.offset+1))[0]?=some y[f.offset]:=by
           rw [Array.getElem?_extract,if_pos (by omega)]
           simp [hs]
          simp [this,hs,h0]
       simp only [Sem.run_bind,hpt l c hl (by omega),hpt m e hm (by omega),Result.andThen]
       exact ih _ _ agf a1 a2 hagf D (by omega) _ _ _ _ _ (hl.take _ _ (by omega)) (hm.take _ _ (by omega)) (by rw [a5]; exact c1) w
end Go.Am
namespace Go.Am
open Go
variable {P:Program} {I:Imm} {ρ:Names} {ag:Bool} {t:TypeId} {x:Value}
theorem Qii {v:V} (h:VR I ρ v x) (hag:Qav P t=some ag) (hv:v.isAgg=ag):∃ c,Cells I ρ v.cells c∧x=QgO P t c:=by
 cases ag with
 | true =>
   cases h with
   | agg _ l cs h1 h2=>exact ⟨cs,⟨h1,h2⟩,by simp [QgO,hag]⟩
   | _=>simp [V.isAgg] at hv
 | false =>
   refine ⟨#[x],?_,by simp [QgO,hag]⟩
   have hc:v.cells=[v]:=by cases v <;> first | rfl | simp [V.isAgg] at hv
   rw [hc]
   refine ⟨rfl,fun j v' x' h1 h2=>?_⟩
   cases j with
   | zero=>simp at h1 h2; subst h1; subst h2; exact h
   | succ j=>simp at h1
theorem Qqi (P:Program) (d:Nat) (em:Bool) (xs:Array Value):∀ (fs:List Field) (w:World),
 (∀ f∈fs,((do Instr.checkKey em d f.type (← part f.type xs f.offset)):Sem Unit).run P w=.ok () w) →
 ((do
   for f in fs do
    if f.name ≠ "_" then Instr.checkKey em d f.type (← part f.type xs f.offset)) : Sem Unit).run P w = .ok () w := by
 intro fs
 induction fs with
 | nil=>intro w _; simp
 | cons f fs ih =>
   intro w h
   have h0:=h f (List.mem_cons_self ..)
   have h1:=ih w fun g hg=>h g (List.mem_cons_of_mem _ hg)
   simp only [List.forIn_cons,Sem.run_bind] at h0 h1 ⊢
   by_cases hf : f.name ≠ "_"
   ·simp only [if_pos hf,Sem.run_bind]
    cases e1:(part f.type xs f.offset).run P w with
    | halt x w1=>simp [e1,Result.andThen] at h0
    | ok v1 w1 =>
      simp only [e1,Result.andThen] at h0 ⊢
      simp only [h0,Sem.run_pure]
      exact h1
   ·simp only [if_neg hf,Sem.run_pure,Result.andThen]
    exact h1
theorem Quv:∀ (d:Nat) (t:TypeId) (ks:List Kd) (ag:Bool),flatK P d t=some ks→szOf P t=some ks.length→Qav P t=some ag→∀ (D:Nat),d≤D→∀ (em:Bool) (l:List V) (c:Array Value) (b:Bool),Cells I ρ l c→Qbo ks l l=some b →
 ∀ w,(Instr.checkKey em D t (QgO P t c)).run P w=.ok () w:=by
 intro d
 induction d with
 | zero=>intro t ks ag hk; simp [flatK] at hk
 | succ d ih =>
   intro t ks ag hk hsz hag D hD em l c b hl hb w
   obtain ⟨D,rfl⟩:∃ D',D=D'+1:=⟨D - 1,by omega⟩
   obtain ⟨ds,hds,h0⟩:=Option.map_eq_some_iff.1 hag
   simp only [flatK,hds] at hk
   cases ds <;> simp only [reduceCtorEq] at hk <;> (try (simp [Instr.checkKey,run_underlying hds]; done))
   rename_i fs
   split at hk
   ·cases hk
   ·have hag':Qav P t=some true:=by simp [Qav,hds,QyY]
    obtain ⟨hn,parts,hp1,hp2,hp3⟩:=Qlo (P:=P) fs.toList [] ks hk
    simp only [List.nil_append] at hp2
    subst hp2
    obtain ⟨bs,hb1,hb2,hb3⟩:=QmC parts l l b hb
    have:=Qqi P D em c fs.toList w fun f hf=>?_
    ·simp only [QgO,hag',if_true]
     simp only [Instr.checkKey,Sem.run_bind,run_underlying hds,Result.andThen]
     simp only [Array.forIn_toList] at this
     simp at this ⊢
     rw [this]
    ·obtain ⟨j,hj,rfl⟩:=List.getElem_of_mem hf
     have hjp:j<parts.length:=by omega
     obtain ⟨a1,a2,a3,a4,a5⟩:=hp3 j _ parts[j] (List.getElem?_eq_getElem hj) (List.getElem?_eq_getElem hjp)
     obtain ⟨c1,c2,c3⟩:=hb3 j parts[j] bs[j] (List.getElem?_eq_getElem hjp) (List.getElem?_eq_getElem (by omega))
     obtain ⟨agf,hagf⟩:=Option.isSome_iff_exists.1 a3
     simp only [List.length_nil,Nat.zero_add] at a5
     generalize fs.toList[j]=f at *
     have hpt:(part f.type c f.offset).run P w=.ok (QgO P f.type (c.extract f.offset (f.offset+parts[j].length))) w:=by
      rw [Qm2 (P:=P) a2 hagf (by have:=hl.1; omega) (fun h=>a4 (h▸hagf)) w]
      simp only [QgO,hagf,Option.some.injEq]
      cases agf with
      | true=>simp
      | false =>
        have:=a4 hagf
        have hs:f.offset<c.size:=by have:=hl.1; omega
        have h0:(c.extract f.offset (f.offset+1))[0]?=some c[f.offset]:=by
         rw [Array.getElem?_extract,if_pos (by omega)]
         simp [hs]
        simp [this,hs,h0]
     simp only [Sem.run_bind,hpt,Result.andThen]
     exact ih _ _ agf a1 a2 hagf D (by omega) em _ _ _ (hl.take _ _ (by omega)) (by rw [a5]; exact c1) w
def Qf2 (ks:List Kd) (k:V):List (V × V)→Option Nat
 | []=>none
 | (k',_)::r=>if Qdc ks k k' then some 0 else (Qf2 ks k r).map (·+1)
theorem Qld (ks:List Kd) (k:V):∀ es,Qku ks k es=(Qf2 ks k es).bind fun j=>es[j]?.map (·.2)
 | []=>rfl
 | (k',v)::r=>by
   have ih:=Qld ks k r
   unfold Qku at ih ⊢
   by_cases h:Qdc ks k k'
   ·simp [Qf2,h]
   ·simp [Qf2,h,ih]
    cases Qf2 ks k r <;> simp
structure QMD (P:Program) (t:TypeId) (ag:Bool) (ks:List Kd):Prop where
 flat:∃ d,d≤10000∧flatK P d t=some ks
 size:szOf P t=some ks.length
 agg:Qav P t=some ag
theorem Qzx {ds:TypeDesc} (hds:P.underlying t=some ds) {y:Value} {e b:Bool} {w:World} (he:(Op.equal t x y).run P w=.ok e w) (hb:Instr.sameNow ds x y=some b):e=b:=by
 unfold Op.equal at he
 obtain ⟨D,hD⟩:∃ D,Op.maxDepth=D+1:=⟨9999,rfl⟩
 rw [hD] at he
 unfold Instr.sameNow at hb
 split at hb
 ·split at hb
  ·rename_i hkk; cases hb; subst hkk
   simp [Op.equalIn,run_underlying hds] at he
   exact he.symm
  ·cases hb
 ·cases hb
  simp [Op.equalIn,run_underlying hds] at he
  exact he.symm
 ·cases hb
  simp [Op.equalIn,run_underlying hds] at he
  exact he.symm
 ·cases hb
variable {k:V}
theorem QfV {ks:List Kd} (hT:QMD P t ag ks) (hk:VR I ρ k x):∀ (es:List (V × V)) (rs:List MapEntry),es.length=rs.length →
 (∀ (j:Nat) (p:V × V) (r:MapEntry),es[j]?=some p→rs[j]?=some r→VR I noNames p.1 r.key)→Qcd ag ks k es→∀ w,
 (Instr.findKey t x rs).run P w=.ok ((Qf2 ks k es).bind fun j=>rs[j]?.map fun r=>(j,r.val)) w:=by
 obtain ⟨⟨d,hd,hf⟩,hsz,hag⟩:=hT
 have heq:∀ (k':V) (x':Value),VR I noNames k' x'→k.isAgg=ag→k'.isAgg=ag→(Qbo ks k.cells k'.cells).isSome=true→∀ w,(Op.equal t x x').run P w=.ok (Qdc ks k k') w:=fun k' x' hk' h1 h2 h3 w=>by
  obtain ⟨b,hb⟩:=Option.isSome_iff_exists.1 h3
  obtain ⟨c,hc,rfl⟩:=Qii (P:=P) hk hag h1
  obtain ⟨c',hc',rfl⟩:=Qii (P:=P) (hk'.mono (Imm.le.refl _) (ρ':=ρ) (fun _ _ _ h=>by cases h)) hag h2
  have:=Qmx d t ks ag hf hsz hag 10000 hd k.cells k'.cells c c' b hc hc' hb w
  simp only [Qdc,hb]
  unfold Op.equal Op.maxDepth
  rw [this]
  cases b <;> rfl
 have ask:∀ (es:List (V × V)) (rs:List MapEntry),es.length=rs.length→(∀ (j:Nat) (p:V × V) (r:MapEntry),es[j]?=some p→rs[j]?=some r→VR I noNames p.1 r.key)→Qcd ag ks k es→∀ i w,
  (Instr.findAsking t x rs i).run P w=.ok ((Qf2 ks k es).bind fun j=>rs[j]?.map fun r=>(i+j,r.val)) w:=by
  intro es
  induction es with
  | nil=>intro rs hl _ _ i w; cases rs with | nil=>rfl | cons=>simp at hl
  | cons p es ih =>
    intro rs hl hv hok i w
    cases rs with
    | nil=>simp at hl
    | cons r rs =>
      obtain ⟨k',v⟩:=p
      have h0:=hok.2 (k',v) (List.mem_cons_self ..)
      have he:=heq k' r.key (hv 0 _ _ rfl rfl) hok.1.1 h0.1 h0.2 w
      simp only [Instr.findAsking,Sem.run_bind,he,Result.andThen,Qf2]
      cases hb:Qdc ks k k' with
      | true=>simp
      | false =>
        simp only [Bool.false_eq_true,if_false]
        rw [ih rs (by simpa using hl) (fun j p r h1 h2=>hv (j+1) p r (by simpa using h1) (by simpa using h2)) ⟨hok.1,fun p hp=>hok.2 p (List.mem_cons_of_mem _ hp)⟩ (i+1) w]
        cases Qf2 ks k es <;> simp [Nat.add_assoc,Nat.add_comm 1]
 intro es rs hl hv hok w
 obtain ⟨ds,hds,h0⟩:=Option.map_eq_some_iff.1 hag
 unfold Instr.findKey
 simp only [Sem.run_bind,run_underlying hds,Result.andThen]
 have now:∀ (es:List (V × V)) (rs:List MapEntry),es.length=rs.length→(∀ (j:Nat) (p:V × V) (r:MapEntry),es[j]?=some p→rs[j]?=some r→VR I noNames p.1 r.key)→Qcd ag ks k es→∀ i res,
  Instr.findNow ds x rs i=some res→res=(Qf2 ks k es).bind fun j=>rs[j]?.map fun r=>(i+j,r.val):=by
  intro es
  induction es with
  | nil=>intro rs hl _ _ i res h; cases rs with | nil=>simp [Instr.findNow] at h; simp [Qf2,← h] | cons=>simp at hl
  | cons p es ih =>
    intro rs hl hv hok i res h
    cases rs with
    | nil=>simp at hl
    | cons r rs =>
      obtain ⟨k',v⟩:=p
      have h0:=hok.2 (k',v) (List.mem_cons_self ..)
      have he:=heq k' r.key (hv 0 _ _ rfl rfl) hok.1.1 h0.1 h0.2 w
      have hsame:∀ b,Instr.sameNow ds x r.key=some b→Qdc ks k k'=b:=fun b hb=>Qzx hds he hb
      simp only [Instr.findNow] at h
      split at h
      ·rename_i hs; have:=hsame _ hs; cases h; simp [Qf2,this]
      ·rename_i hs
       have:=hsame _ hs
       have h2:=ih rs (by simpa using hl) (fun j p r h1 h2=>hv (j+1) p r (by simpa using h1) (by simpa using h2)) ⟨hok.1,fun p hp=>hok.2 p (List.mem_cons_of_mem _ hp)⟩ (i+1) res h
       rw [h2]
       simp only [Qf2,this,Bool.false_eq_true,if_false]
       cases Qf2 ks k es <;> simp [Nat.add_assoc,Nat.add_comm 1]
      ·cases h
 cases hn:Instr.findNow ds x rs 0 with
 | some res =>
   have:=now es rs hl hv hok 0 res hn
   simp only [Sem.run_pure,this]
   simp
 | none =>
   have:=ask es rs hl hv hok 0 w
   simpa using this
theorem Qcl {ks:List Kd} (hT:QMD P t ag ks) (hk:VR I ρ k x) (hok:Qxz ag ks k) (em:Bool) (w:World):(Instr.checkKey em 10000 t x).run P w=.ok () w:=by
 obtain ⟨⟨d,hd,hf⟩,hsz,hag⟩:=hT
 obtain ⟨b,hb⟩:=Option.isSome_iff_exists.1 hok.2
 obtain ⟨c,hc,rfl⟩:=Qii (P:=P) hk hag hok.1
 exact Quv d t ks ag hf hsz hag 10000 hd em k.cells c b hc hb w
end Go.Am
namespace Go.Am
open Go
variable {P:Program} {S:Sg} {G:Nat→Option V} {I:Imm} {ρ:Names} {σ:H} {w:World} {n:Nat} {fr:Fr} {a:Act} {K:V→Prop} {x y z:Value} {t e ty:TypeId}
theorem eqb_ok {neg:Bool} (hu:P.underlying t=some .bool) {u v:Bool} (hx:VR I ρ (.bool u) x) (hy:VR I ρ (.bool v) y) (h:K (.bool (if neg then u != v else u==v))) :
 RdOk P I ρ S w (binOp (if neg then .neq else .eql) t x y) K:=by
 cases hx; cases hy
 refine .of h (.bool _ _) fun w'=>?_
 obtain ⟨D,hD⟩:∃ D,Op.maxDepth=D+1:=⟨9999,rfl⟩
 have:(Op.equal t (.bool u) (.bool v)).run P w'=.ok (u==v) w':=by
  unfold Op.equal; rw [hD]
  simp [Op.equalIn,run_underlying hu]
 cases neg <;> simp [binOp,this]
 cases u <;> cases v <;> rfl
variable {u:V}
theorem eqp_ok {neg:Bool} (hu:P.underlying t=some (.pointer e)) {v:V} (hx:VR I ρ u x) (hy:VR I ρ v y) (h:Qfh neg u v K) :
 RdOk P I ρ S w (binOp (if neg then .neq else .eql) t x y) K:=by
 obtain ⟨D,hD⟩:∃ D,Op.maxDepth=D+1:=⟨9999,rfl⟩
 unfold Qfh at h
 split at h <;> (try exact h.elim) <;> cases hx <;> cases hy
 all_goals
  refine .of h (.bool _ _) fun w'=>?_
  cases neg <;> (simp only [binOp,Bool.false_eq_true,if_false,if_true]; unfold Op.equal; rw [hD]; simp [Op.equalIn,run_underlying hu])
theorem eqf_ok {neg:Bool} {ps rs:Array TypeId} {vd:Bool} (hu:P.underlying t=some (.func ps rs vd)) (hx:VR I ρ u x) (h:Qfi neg u K) :
 RdOk P I ρ S w (binOp (if neg then .neq else .eql) t x .nilFunc) K:=by
 obtain ⟨D,hD⟩:∃ D,Op.maxDepth=D+1:=⟨9999,rfl⟩
 unfold Qfi at h
 split at h <;> (try exact h.elim) <;> cases hx
 all_goals
  refine .of h (.bool _ _) fun w'=>?_
  cases neg <;> (simp only [binOp,Bool.false_eq_true,if_false,if_true]; unfold Op.equal; rw [hD]; simp [Op.equalIn,run_underlying hu])
theorem eqi_ok {neg:Bool} (hu:∃ ms,P.underlying t=some (.interface ms)) (hx:VR I ρ u x) (h:Qg0 neg u K) :
 RdOk P I ρ S w (binOp (if neg then .neq else .eql) t x .nilIface) K:=by
 obtain ⟨D,hD⟩:∃ D,Op.maxDepth=D+1:=⟨9999,rfl⟩
 obtain ⟨ms,hu⟩:=hu
 unfold Qg0 at h
 split at h <;> (try exact h.elim) <;> cases hx
 all_goals
  refine .of h (.bool _ _) fun w'=>?_
  cases neg <;> (simp only [binOp,Bool.false_eq_true,if_false,if_true]; unfold Op.equal; rw [hD]; simp [Op.equalIn,run_underlying hu])
theorem eqn_ok {neg:Bool} (hu:P.underlying t=some (.slice e)) (hx:VR I ρ u x) (h:Qfg neg u K) :
 RdOk P I ρ S w (binOp (if neg then .neq else .eql) t x (.slice none 0 0)) K:=by
 obtain ⟨D,hD⟩:∃ D,Op.maxDepth=D+1:=⟨9999,rfl⟩
 have key:∀ (a:Option Addr) (l c:Nat),x=.slice a l c→∀ w',(binOp (if neg then .neq else .eql) t x (.slice none 0 0)).run P w'=.ok (.bool (if a.isNone then !neg else neg)) w':=fun a l c hx w'=>by
  subst hx
  cases a <;> cases neg <;> (simp only [binOp,Bool.false_eq_true,if_false,if_true]; unfold Op.equal; rw [hD]; simp [Op.equalIn,run_underlying hu])
 unfold Qfg at h
 split at h <;> (try exact h.elim)
 ·cases hx with
  | lst=>contradiction
  | lstN _ _ _ a c =>
    cases a with
    | none=>exact .of h.2 (.bool _ _) (key _ _ _ rfl)
    | some a=>exact .of h.1 (.bool _ _) (key _ _ _ rfl)
 ·cases hx with
  | lst=>exact .of h (.bool _ _) (key _ _ _ rfl)
 ·cases hx with
  | sl=>exact .of h.1 (.bool _ _) (key _ _ _ rfl)
  | slN _ _ _ _ _ a =>
    cases a with
    | none=>exact .of (h.2 rfl) (.bool _ _) (key _ _ _ rfl)
    | some a=>exact .of h.1 (.bool _ _) (key _ _ _ rfl)
variable {l m:List V}
theorem eqs_ok {neg:Bool} {ks:List Kd} (hT:QMD P t true ks) (hx:VR I ρ (.agg l) x) (hy:VR I ρ (.agg m) y) {b:Bool} (hb:Qbo ks l m=some b) (h:K (.bool (if neg then !b else b))) :
 RdOk P I ρ S w (binOp (if neg then .neq else .eql) t x y) K:=by
 obtain ⟨⟨d,hd,hf⟩,hsz,hag⟩:=hT
 refine .of h (.bool _ _) fun w'=>?_
 obtain ⟨c,hc,hx'⟩:=Qii (P:=P) hx hag rfl
 obtain ⟨c',hc',hy'⟩:=Qii (P:=P) hy hag rfl
 have:=Qmx d t ks true hf hsz hag 10000 hd l m c c' b hc hc' hb w'
 have hE:(Op.equal t x y).run P w'=.ok b w':=by
  unfold Op.equal Op.maxDepth
  rw [hx',hy']; exact this
 have hxa:x=.agg c:=by rw [hx']; simp [QgO,hag]
 have hya:y=.agg c':=by rw [hy']; simp [QgO,hag]
 subst hxa; subst hya
 cases neg <;> simp [binOp,hE]
theorem QKZ {o:Oper} {x:Operand} (ho:o.op=.nilCheck x) (hx:VR I ρ u (a.eval x)) (h:Qrx u K):∃ v y,K v∧VR I ρ v y∧∀ (w:World),(execOp a.eval o).run P w=.ok (.value y) w:=by
 have hr:∀ y,a.eval x=y→((∃ b,y=.pointer (some b))∨∃ f l m,y=.func (.func f) l m)→∀ w,(execOp a.eval o).run P w=.ok (.value y) w:=fun y hy hh w=>by
  unfold execOp
  simp only [ho,hy]
  rcases hh with ⟨b,rfl⟩ | ⟨f,l,m,rfl⟩ <;> rfl
 unfold Qrx at h
 generalize hy:a.eval x=y at hx
 split at h <;> (try exact h.elim)
 ·cases hx with
  | ptr _ _ _ _ b o e hn=>exact ⟨_,_,h,.ptr _ _ _ _ b o e hn,hr _ hy (.inl ⟨_,rfl⟩)⟩
 ·cases hx with
  | ref _ _ _ b o f g1 g2=>exact ⟨_,_,h,.ref _ _ _ b o f g1 g2,hr _ hy (.inl ⟨_,rfl⟩)⟩
 ·cases hx with
  | fn _ _ _ cs _ ds g1 g2 g3 g4=>exact ⟨_,_,h,.fn _ _ _ cs _ ds g1 g2 g3 g4,hr _ hy (.inr ⟨_,_,_,rfl⟩)⟩
theorem QLJ {i:Nat} (hx:VR I ρ (.tup l) x) (h:XU (i<l.length) (K (l.getD i .any))):RdOk P I ρ S w (Instr.extract x i) K:=by
 obtain ⟨hi,hk⟩:=h
 cases hx with
 | tup _ _ cs g1 g2 =>
   have hic:i<cs.size:=by omega
   exact .of hk (g2 i _ cs[i] (QbQ hi) (Array.getElem?_eq_getElem hic)) fun w'=>by simp [Instr.extract,hic]
theorem Qzr (hR:Rel G I ρ σ w) (hF:FR I ρ n fr a) {t e m sz:Nat} (hu:P.underlying t=some (.array m e)) (hz:szOf P e=some sz) {x:Operand} {lo hi:Option Operand} 
 (h:evR G fr σ K (.slarr m sz (Qa x) (lo.map Qa) (hi.map Qa))):RdOk P I ρ S w (Instr.sliceAt t (a.eval x) (lo.map a.eval) (hi.map a.eval) none) K:=by
 obtain ⟨inf,hin,rfl⟩:=Option.map_eq_some_iff.1 hz
 have hx:=QF hR hF x
 simp only [evR] at h
 generalize arg G fr (Qa x)=y at h hx
 generalize a.eval x=p at hx ⊢
 split at h <;> (try exact h.elim)
 rename_i nm v off
 split at h <;> (try exact h.elim)
 rename_i v' T cs ho
 obtain ⟨u,u',hk,h1,h2,hr⟩:=Qdk (P:=P) hR hF (isS:=false) (len:=m) (cap:=m) (Nat.le_refl _) (fun _=>rfl) (Nat.le_refl _) h
 obtain ⟨⟨rfl,c1,c2⟩,hk⟩:=hk
 cases hx with
 | ptr _ _ _ _ b o e' hn =>
   have he:o+cs.length≤e':=by
    rcases hR.objs nm _ ho with ⟨h0,_⟩ | ⟨b',o',e'',c,lo',hi',hn',hc,g1,_⟩
    ·rw [hn] at h0; cases h0
    ·rw [hn] at hn'; cases hn'; exact g1
   refine .of hk (.sl _ _ _ _ _ _ _ b o e' (m - u) hn (by omega) (fun q hq=>?_) (fun hq=>by cases hq)) fun w'=>?_
   ·simp only [Option.some.injEq] at hq
    refine ⟨hq,?_⟩
    have e1:u * inf.size+(m - u) * inf.size=m * inf.size:=by rw [← Nat.add_mul]; congr 1; omega
    subst hq
    omega
   ·simp [Instr.sliceAt,run_underlying hu,Instr.sureAddr,hr,sizeOf,typeInfo,hin,Addr.add_mk]
    by_cases hmu:m=u
    ·have:u=0:=by omega
     simp [hmu,this]
    ·simp [hmu,Nat.add_assoc]
def Qz1:TypeDesc→Option Nat
 | .slice _=>some 0
 | .string=>some 1
 | .map _ _=>some 2
 | _=>none
theorem len_ok (hR:Rel G I ρ σ w) {t ty kd:Nat} {d:TypeDesc} (hu:P.underlying t=some d) (hd:Qz1 d=some kd) (hS:(QaS I ρ σ).le S∨kd≠2) (hx:VR I ρ u x) 
 (h:QpE σ kd u K):RdOk P I ρ S w (Builtin.len_ #[t] ty #[x]) K:=by
 cases d <;> simp only [Qz1,reduceCtorEq,Option.some.injEq] at hd <;> subst hd
 ·cases hx with
  | str _ s =>
    have hs:(⟨s.toArray⟩:ByteArray).size=s.length:=by simp [ByteArray.size]
    exact .of h (.int _ _ _) fun w'=>by simp [Builtin.len_,run_underlying hu,goInt,hs]
  | _=>exact h.elim
 ·cases hx with
  | lst=>exact .of h (.int _ _ _) fun w'=>by simp [Builtin.len_,run_underlying hu,goInt]
  | lstN=>exact .of h (.int _ _ _) fun w'=>by simp [Builtin.len_,run_underlying hu,goInt]
  | sl=>exact .of h (.int _ _ _) fun w'=>by simp [Builtin.len_,run_underlying hu,goInt]
  | slN=>exact .of h (.int _ _ _) fun w'=>by simp [Builtin.len_,run_underlying hu,goInt]
  | _=>exact h.elim
 ·cases hx with
  | val _ x =>
    simp only [QpE] at h
    split at h <;> (try exact h.elim) <;> rename_i hxx <;> (try cases hxx)
    all_goals first
     | exact .of h (.int _ _ _) fun w'=>by simp [Builtin.len_,run_underlying hu,goInt]
     | (rename_i h2; cases h2; done)
     | skip
  | mp _ nm v b o e' hn =>
    simp only [QpE] at h
    split at h <;> (try exact h.elim)
    rename_i v' es ho
    obtain ⟨rfl,hk⟩:=h
    obtain ⟨b',o',e'',c,hn',hc,hl,_⟩:=hR.objs nm _ ho
    rw [hn] at hn'; cases hn'
    have hb:=(Array.getElem?_eq_some_iff.1 hc).1
    refine ⟨_,_,hk,.int _ _ _,fun w' hex=>?_⟩
    have hc':=(hex.blocks b ((hS.resolve_right (fun h=>h rfl)).2 _ (Qjh ho hn))).trans hc
    simp [Builtin.len_,run_underlying hu,goInt,getObj,Sem.run,hc',hl]
  | _=>exact h.elim
variable {k k':IntKind} {ts:Array TypeId}
theorem max_ok {u v:Int} (hx:VR I ρ (.int k u) x) (hy:VR I ρ (.int k' v) y) (h:K (.int k (if v > u then v else u))):RdOk P I ρ S w (Builtin.max_ ts ty #[x,y]) K:=by
 cases hx; cases hy
 exact .of h (.int _ _ _) fun w'=>by simp [Builtin.max_,Builtin.max2]
theorem QK9 {k'':IntKind} {u v q:Int} (hx:VR I ρ (.int k u) x) (hy:VR I ρ (.int k' v) y) (hz:VR I ρ (.int k'' q) z) (h:K (.int k (max (max u v) q))):RdOk P I ρ S w (Builtin.max_ ts ty #[x,y,z]) K:=by
 cases hx; cases hy; cases hz
 refine .of h (.int _ _ _) fun w'=>?_
 have e:∀ a b:Int,(if b > a then b else a)=max a b:=fun a b=>by split <;> omega
 simp [Builtin.max_,Builtin.max2,e]
theorem min_ok {u v:Int} (hx:VR I ρ (.int k u) x) (hy:VR I ρ (.int k' v) y) (h:K (.int k (if v<u then v else u))):RdOk P I ρ S w (Builtin.min_ ts ty #[x,y]) K:=by
 cases hx; cases hy
 exact .of h (.int _ _ _) fun w'=>by simp [Builtin.min_,Builtin.min2]
theorem Qne {ks:List Kd} {k:V}:∀ {es:List (V × V)} {j:Nat},Qf2 ks k es=some j→j<es.length
 | [],j,h=>by simp [Qf2] at h
 | (k',v)::es,j,h=>by
   simp only [Qf2] at h
   split at h
   ·cases h; simp
   ·obtain ⟨j',hj',rfl⟩:=Option.map_eq_some_iff.1 h
    have:=Qne hj'
    simp only [List.length_cons]; omega
variable {ag:Bool}
theorem look_ok (hR:Rel G I ρ σ w) {kt et:TypeId} {ok:Bool} {ks:List Kd} (hu:P.underlying t=some (.map kt et)) (hT:QMD P kt ag ks) {i:TypeInfo} (hi:P.info? et=some i) (hz:i.zero=some z) {k:V} {q:Value} (hx:VR I ρ u x) (hk:VR I ρ k q) 
 (h:QjM σ ok ag ks (ofV z) u k K):RdOk P I ρ (QaS I ρ σ) w (Instr.lookup t x q ok) K:=by
 have htup:∀ (v:V) (b:Bool) (r:Value),VR I ρ v r→VR I ρ (if ok then .tup [v,.bool b] else v) (if ok then .tuple #[r,.bool b] else r):=fun v b r hv=>by
  cases ok with
  | false=>exact hv
  | true =>
    refine .tup _ _ _ (by simp) fun j v' x' h1 h2=>?_
    match j with
    | 0=>simp at h1 h2; subst h1; subst h2; exact hv
    | 1=>simp at h1 h2; subst h1; subst h2; exact .bool _ _
    | j+2=>simp at h1
 have hz':∀ w',(zeroValue et).run P w'=.ok z w':=fun w'=>by simp [zeroValue,typeInfo,hi,hz]
 cases hx with
 | mp _ nm v b o e' hn =>
   simp only [QjM] at h
   split at h <;> (try exact h.elim)
   rename_i v' es ho
   obtain ⟨⟨rfl,hok⟩,hK⟩:=h
   obtain ⟨b',o',e'',c,hn',hc,hl,_,hv⟩:=hR.objs nm _ ho
   rw [hn] at hn'; cases hn'
   have hb:=(Array.getElem?_eq_some_iff.1 hc).1
   have hf:=fun w'=>QfV hT hk es c.toList (by simpa using hl) (fun j p r h1 h2=>(hv j p r h1 (by simpa using h2)).1) hok w'
   rw [Qld] at hK
   cases hm:Qf2 ks k es with
   | none =>
     simp only [hm,Option.bind_none,Option.getD_none,Option.isSome_none] at hK hf
     refine ⟨_,_,hK,htup _ false z (QqH _ _ _),fun w' hex=>?_⟩
     have hc':=(hex.blocks b (Qjh ho hn)).trans hc
     have hck:=Qcl hT hk hok.1 c.isEmpty w'
     simp [Instr.lookup,run_underlying hu,getObj,Sem.run,hc',hck,hf w',hz' w']
   | some j =>
     have hj:=Qne hm
     have hjc:j<c.size:=by omega
     simp only [hm,Option.bind_some,List.getElem?_eq_getElem hj,Option.map_some,Option.getD_some,Option.isSome_some] at hK
     refine ⟨_,_,hK,htup _ true c[j].val (hv j es[j] c[j] (List.getElem?_eq_getElem hj) (Array.getElem?_eq_getElem hjc)).2,fun w' hex=>?_⟩
     have hc':=(hex.blocks b (Qjh ho hn)).trans hc
     have hck:=Qcl hT hk hok.1 c.isEmpty w'
     have hf':=hf w'
     simp only [hm,Option.bind_some,Array.getElem?_toList,Array.getElem?_eq_getElem hjc,Option.map_some] at hf'
     simp [Instr.lookup,run_underlying hu,getObj,Sem.run,hc',hck,hf']
 | val _ x =>
   simp only [QjM] at h
   split at h <;> (try exact h.elim) <;> rename_i hxx <;> (try cases hxx)
   obtain ⟨hok,hK⟩:=h
   refine ⟨_,_,hK,htup _ false z (QqH _ _ _),fun w' hex=>?_⟩
   have hck:=Qcl hT hk hok true w'
   have hf:=QfV (ρ:=ρ) hT hk [] [] rfl (fun j p r h=>by simp at h) ⟨hok,by simp⟩ w'
   simp [Qf2] at hf
   simp [Instr.lookup,run_underlying hu,hck,hf,hz' w']
 | _=>exact h.elim
theorem foldl_set (off:Nat):∀ (vs:List Value) (k:Nat) (cs:Array Value),(off+k+vs.length≤cs.size) →
 ((vs.zipIdx k).foldl (fun cs (p:Value × Nat)=>cs.setIfInBounds (off+p.2) p.1) cs).toList=cs.toList.take (off+k)++vs++cs.toList.drop (off+k+vs.length)
 | [],k,cs,_=>by simp
 | v::vs,k,cs,h=>by
   simp only [List.length_cons] at h
   simp only [List.zipIdx_cons,List.foldl_cons]
   rw [foldl_set off vs (k+1) _ (by simp; omega)]
   simp only [Array.toList_setIfInBounds,List.length_cons]
   have h1:off+(k+1)=off+k+1:=by omega
   have h2:off+k<cs.toList.length:=by simp; omega
   rw [h1,List.take_set,List.drop_set_of_lt (by omega)]
   rw [List.take_succ_eq_append_getElem h2]
   have h3:(List.take (off+k) cs.toList++[cs.toList[off+k]]).set (off+k) v=List.take (off+k) cs.toList++[v]:=by
    rw [List.set_append,if_neg (by simp; omega),List.length_take,show off+k - min (off+k) cs.toList.length=0 from by omega]
    rfl
   rw [h3]
   simp [Nat.add_assoc,Nat.add_comm 1]
theorem Cells.nil:Cells I ρ [] #[]:=⟨rfl,fun j v x h=>by simp at h⟩
theorem Cells.append {c e:Array Value} (h:Cells I ρ l c) (k:Cells I ρ m e):Cells I ρ (l++m) (c++e):=by
 refine ⟨by simp [h.1,k.1],fun j v x h1 h2=>?_⟩
 rw [List.getElem?_append] at h1
 rw [Array.getElem?_append] at h2
 have:=h.1
 split at h1
 ·rename_i hj
  rw [if_pos (by omega)] at h2
  exact h.2 j v x h1 h2
 ·rename_i hj
  rw [if_neg (by omega)] at h2
  exact k.2 _ v x h1 (by rw [this]; exact h2)
theorem Qyl {v:V} (h:VR I ρ v x) (hx:∀ cs,x=.agg cs→v.isAgg=true):Cells I ρ v.cells x.cells:=by
 by_cases hv:v.isAgg=true
 ·cases h with
  | agg _ l cs h1 h2=>exact ⟨h1,h2⟩
  | _=>simp [V.isAgg] at hv
 ·have h1:v.cells=[v]:=by cases v <;> first | rfl | simp [V.isAgg] at hv
  have h2:x.cells=#[x]:=by
   cases x with
   | agg cs=>exact absurd (hx cs rfl) hv
   | _=>rfl
  rw [h1,h2]
  refine ⟨rfl,fun j v' y g1 g2=>?_⟩
  cases j <;> simp at g1 g2
  subst g1; subst g2
  exact h
theorem Qhp {v:V} (h:VR I ρ v x) (hs:Qcr v=true):Cells I ρ v.cells x.cells :=
 Qyl h fun cs hx=>by
  subst hx
  cases h with
  | agg=>rfl
  | any=>simp [Qcr] at hs
  | val=>simp [Qcr,Value.oneCell'] at hs
theorem Qrv (hR:Rel G I ρ σ w) (hF:FR I ρ n fr a) (place:Nat→Option (Nat × Nat)):∀ (ps:List (Nat × Operand)) (qs:List (Nat × Nat × Arg)),ps.mapM (fun p=>(place p.1).map fun q=>(q.1,q.2,Qa p.2))=some qs →
 (∀ q∈qs,Qcr (arg G fr q.2.2)=true)→∀ (l:List V) (c:Array Value) (K:List V→Prop),Cells I ρ l c→Qic G fr qs l K →
 ∃ l' c',K l'∧Cells I ρ l' c'∧l'.length=l.length∧Instr.fill place c (ps.map fun p=>(p.1,a.eval p.2))=some c'
 | [],qs,hq,_,l,c,K,hc,h=>by
   simp at hq; subst hq
   exact ⟨l,c,h,hc,rfl,rfl⟩
 | p::ps,qs,hq,hsol,l,c,K,hc,h=>by
   simp only [List.mapM_cons] at hq
   cases hp:place p.1 with
   | none=>simp [hp] at hq
   | some q =>
     simp only [hp,Option.map_some,Option.bind_eq_bind,Option.bind_some] at hq
     cases hr:ps.mapM (fun p=>(place p.1).map fun q=>(q.1,q.2,Qa p.2)) with
     | none=>simp [hr] at hq
     | some r =>
       simp only [hr,Option.bind_some,Option.pure_def,Option.some.injEq] at hq
       subst hq
       obtain ⟨⟨h1,h2⟩,hK⟩:=h
       have hx:=QF hR hF p.2
       have hs:=hsol _ (List.mem_cons_self ..)
       simp only at h1 h2 hK hs
       generalize arg G fr (Qa p.2)=v at h1 h2 hK hx hs
       have hcv:=Qhp hx hs
       have hsz:(a.eval p.2).cells.size=q.2:=by rw [← hcv.1,h1]
       have hlc:=hc.1
       have hfold:=foldl_set q.1 (a.eval p.2).cells.toList 0 c (by simp [hsz]; omega)
       have hcc:Cells I ρ (l.take q.1++v.cells++l.drop (q.1+q.2)) (((a.eval p.2).cells.toList.zipIdx 0).foldl (fun cs (p:Value × Nat)=>cs.setIfInBounds (q.1+p.2) p.1) c):=by
        have e:(((a.eval p.2).cells.toList.zipIdx 0).foldl (fun cs (p:Value × Nat)=>cs.setIfInBounds (q.1+p.2) p.1) c)=(c.extract 0 q.1++(a.eval p.2).cells++c.extract (q.1+q.2) c.size):=by
         apply Array.ext'
         rw [hfold]
         simp [hsz]
         rw [List.take_of_length_le (by simp)]
        rw [e]
        refine Cells.append (Cells.append ?_ hcv) ?_
        ·have:=hc.take 0 q.1 (by omega)
         simpa using this
        ·have:=hc.take (q.1+q.2) (l.length - (q.1+q.2)) (by omega)
         rw [List.take_of_length_le (by simp),show q.1+q.2+(l.length - (q.1+q.2))=c.size from by omega] at this
         exact this
       obtain ⟨l',c',g1,g2,g3,g4⟩:=Qrv hR hF place ps r hr (fun q hq=>hsol q (List.mem_cons_of_mem _ hq)) _ _ K hcc hK
       refine ⟨l',c',g1,g2,?_,?_⟩
       ·rw [g3]; simp; omega
       ·simp only [List.map_cons,Instr.fill,hp]
        rw [if_neg (by rw [hsz]; simp; omega)]
        have e2:((a.eval p.2).cells.zipIdx).foldl (fun cs (p:Value × Nat)=>cs.setIfInBounds (q.1+p.2) p.1) c=(((a.eval p.2).cells.toList.zipIdx 0).foldl (fun cs (p:Value × Nat)=>cs.setIfInBounds (q.1+p.2) p.1) c):=by
         rw [← Array.foldl_toList,Array.toList_zipIdx]
        rw [← g4,← e2]
def placeOf (P:Program) (t:TypeId):Option (Nat→Option (Nat × Nat)) :=
 match P.underlying t with
 | some (.struct fs)=>if fs.all (fun f=>(szOf P f.type).isSome) then some fun i=>(fs[i]?).bind fun f=>(szOf P f.type).map fun s=>(f.offset,s) else none
 | some (.array _ e)=>(szOf P e).map fun s=>fun i=>some (i * s,s)
 | _=>none
theorem run_sizeOf {t s:Nat} (hs:szOf P t=some s) (w':World):(sizeOf t).run P w'=.ok s w':=by
 obtain ⟨i,hi,rfl⟩:=Option.map_eq_some_iff.1 hs
 simp [sizeOf,typeInfo,hi]
def zeroOf (P:Program) (t:TypeId):Option Value:=(P.info? t).bind (·.zero)
theorem QfO (hz:zeroOf P t=some z) (w':World):(zeroValue t).run P w'=.ok z w':=by
 obtain ⟨i,hi,hz⟩:=Option.bind_eq_some_iff.1 hz
 simp [zeroValue,typeInfo,hi,hz]
def ZA (z:Value):List V:=z.cells.toList.map ofC
theorem Qbe (z:Value):Cells I ρ (ZA z) z.cells:=⟨by simp [ZA],QhD _ _ _⟩
theorem QAZ (hR:Rel G I ρ σ w) (hF:FR I ρ n fr a) {place:Nat→Option (Nat × Nat)} (hp:placeOf P t=some place) (hz:zeroOf P t=some z) {ps:Array (Nat × Operand)} {qs:List (Nat × Nat × Arg)}
 (hq:ps.toList.mapM (fun p=>(place p.1).map fun q=>(q.1,q.2,Qa p.2))=some qs) (h:XU (∀ q∈qs,Qcr (arg G fr q.2.2)=true) (Qic G fr qs (ZA z) fun cs=>K (.agg cs))) :
 RdOk P I ρ S w (Instr.build t (ps.map fun (i,x)=>(i,a.eval x))) K:=by
 obtain ⟨l',c',h1,h2,_,h4⟩:=Qrv hR hF place ps.toList qs hq h.1 _ _ _ (Qbe z) h.2
 refine .of h1 (.agg _ _ _ h2.1 h2.2) fun w'=>?_
 have hl:(ps.map fun (i,x)=>(i,a.eval x)).toList=ps.toList.map fun p=>(p.1,a.eval p.2):=by simp
 unfold placeOf at hp
 split at hp
 ·rename_i fs hu
  split at hp
  ·rename_i hall
   cases hp
   have hm:∀ (w':World),(fs.mapM fun f=>do pure (f.offset,← sizeOf f.type):Sem (Array (Nat × Nat))).run P w'=.ok (fs.map fun f=>(f.offset,(szOf P f.type).getD 0)) w':=by
    have key:∀ (l:List Field),(∀ f∈l,(szOf P f.type).isSome=true)→∀ w',(l.mapM fun f=>do pure (f.offset,← sizeOf f.type):Sem (List (Nat × Nat))).run P w'=.ok (l.map fun f=>(f.offset,(szOf P f.type).getD 0)) w':=by
     intro l
     induction l with
     | nil=>intro _ w'; rfl
     | cons f l ih =>
       intro hl w'
       obtain ⟨s,hs⟩:=Option.isSome_iff_exists.1 (hl f (List.mem_cons_self ..))
       have:=ih (fun g hg=>hl g (List.mem_cons_of_mem _ hg)) w'
       simp only [List.mapM_cons,Sem.run_bind,run_sizeOf hs,Result.andThen,Sem.run_pure]
       rw [this]
       simp [hs]
    intro w'
    rw [Array.mapM_eq_mapM_toList]
    have:=key fs.toList (fun f hf=>by have:=Array.all_eq_true'.1 hall f (by simpa using hf); exact this) w'
    simp only [Sem.run_map,this,Result.andThen]
    rw [← Array.toList_map]
   have hpl:(fun (i:Nat)=>(fs.map fun (f:Field)=>(f.offset,(szOf P f.type).getD 0))[i]?)=fun i=>(fs[i]?).bind fun (f:Field)=>(szOf P f.type).map fun s=>(f.offset,s):=by
    funext i
    simp only [Array.getElem?_map]
    cases hf:fs[i]? with
    | none=>rfl
    | some f =>
      have:=Array.all_eq_true'.1 hall f (Array.mem_of_getElem? hf)
      obtain ⟨s,hs⟩:=Option.isSome_iff_exists.1 this
      simp [hs]
   simp only [Instr.build,Sem.run_bind,QfO hz,Result.andThen,run_underlying hu]
   simp only [hm]
   rw [hl]
   have h5:Instr.fill (fun x=>(fs.map fun (f:Field)=>(f.offset,(szOf P f.type).getD 0))[x]?) z.cells (ps.toList.map fun p=>(p.1,a.eval p.2))=some c':=by rw [hpl]; exact h4
   rw [h5]
   rfl
  ·cases hp
 ·rename_i m e hu
  obtain ⟨s,hs,rfl⟩:=Option.map_eq_some_iff.1 hp
  obtain ⟨i,hi,rfl⟩:=Option.map_eq_some_iff.1 hs
  simp only [Instr.build,Sem.run_bind,QfO hz,Result.andThen,run_underlying hu,sizeOf,typeInfo,run_program,hi,Sem.run_pure]
  rw [hl]
  rw [h4]
  rfl
 ·cases hp
def Qrn (P:Program) (t:TypeId):Option (Bool × List Kd) :=
 match flatK P 20 t,Qav P t with
 | some ks,some ag=>if szOf P t=some ks.length then some (ag,ks) else none
 | _,_=>none
theorem Qlj {ks:List Kd} (h:Qrn P t=some (ag,ks)):QMD P t ag ks:=by
 unfold Qrn at h
 split at h
 ·rename_i h1 h2
  split at h
  ·rename_i h3; cases h; exact ⟨⟨20,by omega,h1⟩,h3,h2⟩
  ·cases h
 ·cases h
def QjV:BinOp→Option Bool
 | .eql=>some false
 | .neq=>some true
 | _=>none
def QxM:Operand→Bool
 | .const .nilFunc=>true
 | _=>false
def QxI:Operand→Bool
 | .const (.slice none 0 0)=>true
 | _=>false
theorem QxL {x:Operand} (h:QxM x=true):x=.const .nilFunc:=by
 unfold QxM at h
 split at h
 ·rfl
 ·cases h
theorem QxH {x:Operand} (h:QxI x=true):x=.const (.slice none 0 0):=by
 unfold QxI at h
 split at h
 ·rfl
 ·cases h
def QxK:Operand→Bool
 | .const .nilIface=>true
 | _=>false
theorem QxJ {x:Operand} (h:QxK x=true):x=.const .nilIface:=by
 unfold QxK at h
 split at h
 ·rfl
 ·cases h
variable {op:BinOp}
theorem Qry {P:Program} {x:Operand} {u:Value} (w:World):(eqGuard op t x (.const .nilIface) u .nilIface).run P w=.ok () w:=by
 unfold eqGuard
 cases u <;> cases op <;> simp <;> rfl
def Qyj (P:Program) (op:BinOp) (t:TypeId) (x y:Operand):Option AOp :=
 match P.underlying t with
 | some (.int _)=>some (.bin op (Qa x) (Qa y))
 | some .string=>some (.bin op (Qa x) (Qa y))
 | some .bool=>(QjV op).map fun neg=>.eqb neg (Qa x) (Qa y)
 | some (.pointer _)=>(QjV op).map fun neg=>.eqp neg (Qa x) (Qa y)
 | some (.func _ _ _)=>if QxM y then (QjV op).map fun neg=>.eqf neg (Qa x) else none
 | some (.slice _)=>if QxI y then (QjV op).map fun neg=>.eqn neg (Qa x) else none
 | some (.interface _)=>if QxK y then (QjV op).map fun neg=>.eqi neg (Qa x) else none
 | some (.struct _)=>if P.eqGuardType P.depth t then none else
   match Qrn P t,QjV op with
   | some (true,ks),some neg=>some (.eqs neg ks (Qa x) (Qa y))
   | _,_=>none
 | _=>none
def Qtz (P:Program) (src dst:TypeId) (x:Operand):Option AOp :=
 match P.underlying dst with
 | some (.int k)=>if (P.underlying src).isSome then some (.conv k (Qa x)) else none
 | some .string=>match P.underlying src with
   | some .string=>some (.same (Qa x))
   | some (.int _)=>some (.same (Qa x))
   | _=>none
 | _=>none
def Qqf (P:Program) (s:TypeId) (x:Operand) (f:Nat):Option AOp :=
 match P.underlying s with
 | some (.struct fs)=>match fs[f]? with
   | some fd=>match szOf P fd.type,Qav P fd.type with
     | some sz,some ag=>some (.field ag fd.offset sz (Qa x))
     | _,_=>none
   | none=>none
 | _=>none
def Qqg (P:Program) (s:TypeId) (x:Operand) (f:Nat):Option AOp :=
 match P.underlying s with
 | some (.struct fs)=>match fs[f]? with
   | some fd=>match szOf P fd.type with
     | some sz=>if sz=0 then none else some (.faddr fd.offset (Qa x))
     | none=>none
   | none=>none
 | _=>none
def Qqe (P:Program) (t:TypeId) (x i:Operand):Option AOp :=
 match P.underlying t with
 | some (.slice e)=>(szOf P e).map fun sz=>.iaddr none sz (Qa x) (Qa i)
 | some (.array m e)=>(szOf P e).map fun sz=>.iaddr (some m) sz (Qa x) (Qa i)
 | _=>none
def Qqd (P:Program) (t:TypeId) (x i:Operand):Option AOp :=
 match P.underlying t with
 | some (.array m e)=>match szOf P e,Qav P e with
   | some sz,some ag=>some (.aidx ag sz m (Qa x) (Qa i))
   | _,_=>none
 | some .string=>some (.sidx (Qa x) (Qa i))
 | _=>none
def Qqb (P:Program) (t:TypeId) (x:Operand) (lo hi mx:Option Operand):Option AOp :=
 match P.underlying t,mx with
 | some .string,none=>some (.ssl (Qa x) (lo.map Qa) (hi.map Qa))
 | some (.slice e),none=>(szOf P e).map fun sz=>.slc sz (Qa x) (lo.map Qa) (hi.map Qa) none
 | some (.slice e),some m=>match hi with
   | some h=>(szOf P e).map fun sz=>.slc sz (Qa x) (lo.map Qa) (some (Qa h)) (some (Qa m))
   | none=>none
 | some (.array k e),none=>(szOf P e).map fun sz=>.slarr k sz (Qa x) (lo.map Qa) (hi.map Qa)
 | _,_=>none
def Qty (P:Program) (t:TypeId) (x k:Operand) (ok:Bool):Option AOp :=
 match P.underlying t with
 | some (.map kt et)=>match Qrn P kt,zeroOf P et with
   | some (ag,ks),some z=>some (.look ok ag ks (ofV z) (Qa x) (Qa k))
   | _,_=>none
 | _=>none
def Qqh (P:Program) (t:TypeId) (ps:Array (Nat × Operand)):Option AOp :=
 match placeOf P t,zeroOf P t with
 | some place,some z=>(ps.toList.mapM fun p=>(place p.1).map fun q=>(q.1,q.2,Qa p.2)).map fun qs=>.build (ZA z) qs
 | _,_=>none
def QlA (P:Program) (b:Go.Builtin) (args:List Operand) (ts:List TypeId):Option AOp :=
 match b,args,ts with
 | .len,[x],[t]=>((P.underlying t).bind Qz1).map fun kd=>.len kd (Qa x)
 | .max,[x,y],_=>some (.maxi (Qa x) (Qa y))
 | .min,[x,y],_=>some (.mini (Qa x) (Qa y))
 | .max,[x,y,z],_=>some (.max3 (Qa x) (Qa y) (Qa z))
 | _,_,_=>none
def Qqc (P:Program) (o:Oper):Option AOp :=
 match o.op with
 | .move x=>some (.mov (Qa x))
 | .assign x=>some (.mov (Qa x))
 | .pick c a b=>some (.pick (Qa c) (Qa a) (Qa b))
 | .load t x=>match Qav P t,szOf P t with
   | some ag,some sz=>some (.load ag sz (Qa x))
   | _,_=>none
 | .nilCheck x=>some (.nilc (Qa x))
 | .binOp op t x y _=>Qyj P op t x y
 | .unOp op _ x=>some (.un op (Qa x))
 | .convert src dst x=>Qtz P src dst x
 | .makeFunc f l m=>some (.mkfn f (l.toList.map Qa) (m.toList.map Qa))
 | .fieldAddr s x f=>Qqg P s x f
 | .field s x f=>Qqf P s x f
 | .indexAddr t x i=>Qqe P t x i
 | .index t x i=>Qqd P t x i
 | .slice t x lo hi mx=>Qqb P t x lo hi mx
 | .lookup t x k ok=>Qty P t x k ok
 | .extract x i=>some (.extr (Qa x) i)
 | .build t ps=>Qqh P t ps
 | .call c=>match c.callee with
   | .builtin b=>QlA P b c.args.toList c.argTypes.toList
   | _=>none
 | _=>none
def NextOk (P:Program) (I:Imm) (ρ:Names) (S:Sg) (w:World) (s:Sem Next) (K:V→Prop):Prop:=∃ v x,K v∧VR I ρ v x∧∀ w',Ek S w w'→s.run P w'=.ok (.value x) w'
theorem RdOk.next {s:Sem Value} (h:RdOk P I ρ S w s K):NextOk P I ρ S w (do pure (.value (← s))) K:=by
 obtain ⟨v,x,h1,h2,h3⟩:=h
 exact ⟨v,x,h1,h2,fun w' hk=>by simp [h3 w' hk]⟩
theorem NextOk.of {v:V} (hv:VR I ρ v x) (h:K v):NextOk P I ρ S w (pure (.value x)) K:=⟨v,x,h,hv,fun _ _=>rfl⟩
theorem Zs {x y:Operand} {u v:Value} (hu:∀ cs,u≠.agg cs) (hu':u≠.nilIface) (w:World):(eqGuard op t x y u v).run P w=.ok () w:=by
 unfold eqGuard
 cases u <;> first | (exact absurd rfl (hu _)) | (exact absurd rfl hu') | (cases op <;> simp <;> rfl)
theorem Qrz {x y:Operand} {u v:Value} (h:P.eqGuardType P.depth t=false) (hu':u≠.nilIface) (w:World):(eqGuard op t x y u v).run P w=.ok () w:=by
 unfold eqGuard
 cases u <;> first | (exact absurd rfl hu') | (cases op <;> simp <;> rfl) | (cases v <;> cases op <;> simp [h] <;> rfl)
theorem QcI {x y:Operand} {u v:Value} (hg:∀ w,(eqGuard op t x y u v).run P w=.ok () w) (h:RdOk P I ρ S w (binOp op t u v) K) :
 NextOk P I ρ S w (do pure (.value (← (do eqGuard op t x y u v; binOp op t u v)))) K:=by
 obtain ⟨v',x',h1,h2,h3⟩:=h
 exact ⟨v',x',h1,h2,fun w' hk=>by simp [hg w',h3 w' hk]⟩
theorem QlI (hR:Rel G I ρ σ w) (hF:FR I ρ n fr a) (l:Array Operand):∀ (j:Nat) (v:V) (x:Value),((l.toList.map Qa).map (arg G fr))[j]?=some v→(l.map a.eval)[j]?=some x→VR I ρ v x:=fun j v x h1 h2=>by
 simp only [List.getElem?_map,Array.getElem?_toList,Array.getElem?_map] at h1 h2
 cases hj:l[j]? with
 | none=>simp [hj] at h1
 | some o =>
   simp only [hj,Option.map_some,Option.some.injEq] at h1 h2
   subst h1; subst h2
   exact QF hR hF o
theorem Qqo {y z:V} (h:Qno op y z K) {p:Value} (hy:VR I ρ y p):(∀ cs,p≠.agg cs)∧p≠.nilIface:=by
 unfold Qno at h
 split at h <;> (try exact h.elim) <;> cases hy <;> exact ⟨fun _ h=>(by cases h),fun h=>(by cases h)⟩
def Qo8 (P:Program) (o:Oper):Bool :=
 match o.op with
 | .load ..=>false
 | .lookup ..=>false
 | .call c=>match c.callee with
   | .builtin .len=>match c.argTypes.toList with
     | [t]=>(P.underlying t).bind Qz1 != some 2
     | _=>false
   | .builtin _=>true
   | _=>false
 | _=>true
theorem Qlq (hR:Rel G I ρ σ w) (hF:FR I ρ n fr a) {o:Oper} {op:AOp} (hc:Qqc P o=some op) (hS:(QaS I ρ σ).le S∨Qo8 P o=true) (h:evR G fr σ K op):NextOk P I ρ S w (execOp a.eval o) K:=by
 unfold Qqc at hc
 unfold execOp
 split at hc
 ·rename_i x ho; cases hc; simp only [ho]; exact .of (QF hR hF x) h
 ·rename_i x ho; cases hc; simp only [ho]; exact .of (QF hR hF x) h
 ·rename_i c x y ho; cases hc; simp only [ho]
  have hcv:=QF hR hF c
  simp only [evR] at h
  split at h <;> (try exact h.elim)
  rename_i t ht
  rw [ht] at hcv
  generalize a.eval c=cv at hcv
  cases hcv
  cases t with
  | true =>
    obtain ⟨v,x',h1,h2,h3⟩:=NextOk.of (P:=P) (S:=S) (w:=w) (QF hR hF x) (h.1 rfl)
    exact ⟨v,_,h1,QF hR hF x |> fun _=>h2,fun w' hk=>by have:=h3 w' hk; simp [asBool] at this ⊢; exact this⟩
  | false =>
    obtain ⟨v,x',h1,h2,h3⟩:=NextOk.of (P:=P) (S:=S) (w:=w) (QF hR hF y) (h.2 rfl)
    exact ⟨v,_,h1,h2,fun w' hk=>by have:=h3 w' hk; simp [asBool] at this ⊢; exact this⟩
 ·rename_i t x ho
  split at hc <;> (try cases hc)
  rename_i ag sz hag hsz
  simp only [ho]
  exact ((Qxw hR hF hsz hag h).up (hS.resolve_right (by simp [Qo8,ho]))).next
 ·rename_i x ho; cases hc
  obtain ⟨v,y,h1,h2,h3⟩:=QKZ (P:=P) ho (QF hR hF x) h
  have h4:=fun w' (_:Ek S w w')=>h3 w'
  unfold execOp at h4
  exact ⟨v,y,h1,h2,h4⟩
 ·rename_i op' t x y _ ho
  simp only [ho]
  unfold Qyj at hc
  have hx:=QF hR hF x
  have hy:=QF hR hF y
  split at hc
  ·cases hc
   have hs:=Qqo h hx
   exact QcI (Zs hs.1 hs.2) (QtH hx hy h)
  ·cases hc
   have hs:=Qqo h hx
   exact QcI (Zs hs.1 hs.2) (QtH hx hy h)
  ·rename_i hu
   obtain ⟨neg,hneg,rfl⟩:=Option.map_eq_some_iff.1 hc
   simp only [evR] at h
   split at h <;> (try exact h.elim)
   rename_i u v e1 e2
   rw [e1] at hx; rw [e2] at hy
   have hop:op'=if neg then .neq else .eql:=by cases op' <;> simp [QjV] at hneg <;> subst hneg <;> rfl
   refine QcI (Zs ?_ ?_) (hop▸eqb_ok hu hx hy h)
   ·generalize a.eval x=p at hx; cases hx; exact fun _ h=>by cases h
   ·generalize a.eval x=p at hx; cases hx; exact fun h=>by cases h
  ·rename_i e hu
   obtain ⟨neg,hneg,rfl⟩:=Option.map_eq_some_iff.1 hc
   simp only [evR] at h
   have hop:op'=if neg then .neq else .eql:=by cases op' <;> simp [QjV] at hneg <;> subst hneg <;> rfl
   have hsh:(∀ cs,a.eval x≠.agg cs)∧a.eval x≠.nilIface:=by
    unfold Qfh at h
    generalize a.eval x=p at hx
    split at h <;> (try exact h.elim)
    all_goals (rename_i e1 _; rw [e1] at hx; cases hx; exact ⟨fun _ h=>(by cases h),fun h=>(by cases h)⟩)
   exact QcI (Zs hsh.1 hsh.2) (hop▸eqp_ok hu hx hy h)
  ·rename_i ps rs vd hu
   split at hc <;> (try cases hc)
   rename_i hy0
   have hy0:=QxL hy0
   subst hy0
   obtain ⟨neg,hneg,rfl⟩:=Option.map_eq_some_iff.1 hc
   simp only [evR] at h
   have hop:op'=if neg then .neq else .eql:=by cases op' <;> simp [QjV] at hneg <;> subst hneg <;> rfl
   have hsh:(∀ cs,a.eval x≠.agg cs)∧a.eval x≠.nilIface:=by
    unfold Qfi at h
    generalize a.eval x=p at hx
    split at h <;> (try exact h.elim)
    all_goals (rename_i e1; rw [e1] at hx; cases hx; exact ⟨fun _ h=>(by cases h),fun h=>(by cases h)⟩)
   exact QcI (Zs hsh.1 hsh.2) (hop▸eqf_ok hu hx h)
  ·rename_i e hu
   split at hc <;> (try cases hc)
   rename_i hy0
   have hy0:=QxH hy0
   subst hy0
   obtain ⟨neg,hneg,rfl⟩:=Option.map_eq_some_iff.1 hc
   simp only [evR] at h
   have hop:op'=if neg then .neq else .eql:=by cases op' <;> simp [QjV] at hneg <;> subst hneg <;> rfl
   have hsh:(∀ cs,a.eval x≠.agg cs)∧a.eval x≠.nilIface:=by
    unfold Qfg at h
    generalize a.eval x=p at hx
    split at h <;> (try exact h.elim)
    all_goals (rename_i e1; rw [e1] at hx; cases hx <;> exact ⟨fun _ h=>(by cases h),fun h=>(by cases h)⟩)
   exact QcI (Zs hsh.1 hsh.2) (hop▸eqn_ok hu hx h)
  ·rename_i ms hu
   split at hc <;> (try cases hc)
   rename_i hy0
   have hy0:=QxJ hy0
   subst hy0
   obtain ⟨neg,hneg,rfl⟩:=Option.map_eq_some_iff.1 hc
   simp only [evR] at h
   have hop:op'=if neg then .neq else .eql:=by cases op' <;> simp [QjV] at hneg <;> subst hneg <;> rfl
   exact QcI Qry (hop▸eqi_ok ⟨_,hu⟩ hx h)
  ·rename_i fs hu
   split at hc
   ·cases hc
   ·rename_i hg
    split at hc <;> (try cases hc)
    rename_i ks neg hk hneg
    simp only [evR] at h
    split at h <;> (try exact h.elim)
    rename_i l m e1 e2
    split at h <;> (try exact h.elim)
    rename_i b hb
    rw [e1] at hx; rw [e2] at hy
    have hop:op'=if neg then .neq else .eql:=by cases op' <;> simp [QjV] at hneg <;> subst hneg <;> rfl
    refine QcI (Qrz (by simpa using hg) ?_) (hop▸eqs_ok (Qlj hk) hx hy hb h)
    generalize a.eval x=p at hx; cases hx; exact fun h=>by cases h
  ·cases hc
 ·rename_i op' t x ho; cases hc; simp only [ho]; exact (un_ok (QF hR hF x) h).next
 ·rename_i src dst x ho
  simp only [ho]
  have hx:=QF hR hF x
  unfold Qtz at hc
  split at hc
  ·rename_i k hd
   split at hc <;> (try cases hc)
   rename_i hs
   simp only [evR] at h
   split at h <;> (try exact h.elim)
   rename_i kk m e
   rw [e] at hx
   exact (QLZ hs hd hx h).next
  ·rename_i hd
   split at hc <;> (try cases hc)
   rename_i hs
   ·simp only [evR] at h
    split at h <;> (try exact h.elim)
    ·rename_i s e
     rw [e] at hx
     exact (QwU (P:=P) (by simp [hs]) hd hx h).next
    ·rename_i kk m e
     rw [e] at hx
     exact (Qyq (P:=P) (by simp [hs]) hd hx h.1 h.2).next
   ·rename_i hs
    simp only [evR] at h
    split at h <;> (try exact h.elim)
    ·rename_i s e
     rw [e] at hx
     exact (QwU (P:=P) (by simp [hs]) hd hx h).next
    ·rename_i kk m e
     rw [e] at hx
     exact (Qyq (P:=P) (by simp [hs]) hd hx h.1 h.2).next
  ·cases hc
 ·rename_i f l m ho; cases hc; simp only [ho]
  refine RdOk.next (.of h (.fn _ _ _ _ _ _ (by simp) (by simp) (QlI hR hF l) (QlI hR hF m)) fun w'=>rfl)
 ·rename_i s x f ho
  simp only [ho]
  unfold Qqg at hc
  split at hc <;> (try cases hc)
  rename_i fs hu
  split at hc <;> (try cases hc)
  rename_i fd hf
  split at hc <;> (try cases hc)
  rename_i sz hz
  split at hc <;> (try cases hc)
  rename_i h0
  exact (QAz hu hf rfl hz h0 (QF hR hF x) h).next
 ·rename_i s x f ho
  simp only [ho]
  unfold Qqf at hc
  split at hc <;> (try cases hc)
  rename_i fs hu
  split at hc <;> (try cases hc)
  rename_i fd hf
  split at hc <;> (try cases hc)
  rename_i sz ag hz hag
  have hx:=QF hR hF x
  simp only [evR] at h
  split at h <;> (try exact h.elim)
  rename_i l e
  rw [e] at hx
  exact (QAy hu hf rfl hz hag hx h).next
 ·rename_i t x i ho
  simp only [ho]
  unfold Qqe at hc
  split at hc
  ·rename_i e hu
   obtain ⟨sz,hz,rfl⟩:=Option.map_eq_some_iff.1 hc
   exact (Qtl hu (.inl ⟨rfl,rfl⟩) hz (QF hR hF x) (QF hR hF i) h).next
  ·rename_i m e hu
   obtain ⟨sz,hz,rfl⟩:=Option.map_eq_some_iff.1 hc
   exact (Qtl hu (.inr ⟨m,rfl,rfl⟩) hz (QF hR hF x) (QF hR hF i) h).next
  ·cases hc
 ·rename_i t x i ho
  simp only [ho]
  have hx:=QF hR hF x
  have hi:=QF hR hF i
  unfold Qqd at hc
  split at hc
  ·rename_i m e hu
   split at hc <;> (try cases hc)
   rename_i sz ag hz hag
   simp only [evR] at h
   split at h <;> (try exact h.elim)
   rename_i cs k j e1 e2
   rw [e1] at hx; rw [e2] at hi
   exact (QMA hu hz hag hx hi h).next
  ·rename_i hu
   cases hc
   simp only [evR] at h
   split at h <;> (try exact h.elim)
   rename_i s k j e1 e2
   rw [e1] at hx; rw [e2] at hi
   exact (QKH hu hx hi h).next
  ·cases hc
 ·rename_i t x lo hi mx ho
  simp only [ho]
  unfold Qqb at hc
  split at hc
  ·rename_i hu; cases hc; exact (ssl_ok hR hF hu h).next
  ·rename_i e hu
   obtain ⟨sz,hz,rfl⟩:=Option.map_eq_some_iff.1 hc
   exact (slc_ok hR hF hu hz h).next
  ·rename_i e m hu
   split at hc <;> (try cases hc)
   obtain ⟨sz,hz,rfl⟩:=Option.map_eq_some_iff.1 hc
   exact (QKG hR hF hu hz h).next
  ·rename_i k e hu
   obtain ⟨sz,hz,rfl⟩:=Option.map_eq_some_iff.1 hc
   exact (Qzr hR hF hu hz h).next
  ·cases hc
 ·rename_i t x k ok ho
  simp only [ho]
  unfold Qty at hc
  split at hc <;> (try cases hc)
  rename_i kt et hu
  split at hc <;> (try cases hc)
  rename_i ag ks z hk hz
  obtain ⟨i,hi,hz⟩:=Option.bind_eq_some_iff.1 hz
  exact ((look_ok hR hu (Qlj hk) hi hz (QF hR hF x) (QF hR hF k) h).up (hS.resolve_right (by simp [Qo8,ho]))).next
 ·rename_i x i ho; cases hc; simp only [ho]
  have hx:=QF hR hF x
  simp only [evR] at h
  split at h <;> (try exact h.elim)
  rename_i l e
  rw [e] at hx
  exact (QLJ hx h).next
 ·rename_i t ps ho
  simp only [ho]
  unfold Qqh at hc
  split at hc <;> (try cases hc)
  rename_i place z hp hz
  obtain ⟨qs,hq,rfl⟩:=Option.map_eq_some_iff.1 hc
  exact (QAZ hR hF hp hz hq h).next
 ·rename_i c ho
  simp only [ho]
  split at hc <;> (try cases hc)
  rename_i b hb
  obtain ⟨callee,args,ts⟩:=c
  simp only at hb hc
  subst hb
  have hl:args=args.toList.toArray:=by simp
  have ht:ts=ts.toList.toArray:=by simp
  generalize args.toList=al at hl hc
  generalize ts.toList=tl at ht hc
  subst hl; subst ht
  unfold QlA at hc
  split at hc <;> (try cases hc)
  ·rename_i x t
   obtain ⟨kd,hkd,rfl⟩:=Option.map_eq_some_iff.1 hc
   obtain ⟨d,hd,hkd⟩:=Option.bind_eq_some_iff.1 hkd
   have hS2:(QaS I ρ σ).le S∨kd≠2:=hS.imp id fun hp=>by
    simp only [Qo8,ho] at hp
    simpa [hd,hkd] using hp
   have:=len_ok (P:=P) (ty:=o.type) hR hd hkd hS2 (QF hR hF x) h
   obtain ⟨v,y,h1,h2,h3⟩:=this
   exact ⟨v,y,h1,h2,fun w' hk=>by simp [resolve,invoke,builtin,h3 w' hk]⟩
  ·rename_i x y
   simp only [evR] at h
   split at h <;> (try exact h.elim)
   rename_i k u k' v e1 e2
   have hx:=QF hR hF x
   have hy:=QF hR hF y
   rw [e1] at hx; rw [e2] at hy
   obtain ⟨v,y,h1,h2,h3⟩:=max_ok (P:=P) (S:=S) (w:=w) (ts:=tl.toArray) (ty:=o.type) hx hy h.2
   exact ⟨v,y,h1,h2,fun w' hk=>by simp [resolve,invoke,builtin,h3 w' hk]⟩
  ·rename_i x y
   simp only [evR] at h
   split at h <;> (try exact h.elim)
   rename_i k u k' v e1 e2
   have hx:=QF hR hF x
   have hy:=QF hR hF y
   rw [e1] at hx; rw [e2] at hy
   obtain ⟨v,y,h1,h2,h3⟩:=min_ok (P:=P) (S:=S) (w:=w) (ts:=tl.toArray) (ty:=o.type) hx hy h.2
   exact ⟨v,y,h1,h2,fun w' hk=>by simp [resolve,invoke,builtin,h3 w' hk]⟩
  ·rename_i x y z
   have h:QpC (arg G fr (Qa x)) (arg G fr (Qa y)) (arg G fr (Qa z)) K:=h
   unfold QpC at h
   split at h <;> (try exact h.elim)
   rename_i k u k' v k'' q e1 e2 e3
   have hx:=QF hR hF x
   have hy:=QF hR hF y
   have hz:=QF hR hF z
   rw [e1] at hx; rw [e2] at hy; rw [e3] at hz
   obtain ⟨v,y,h1,h2,h3⟩:=QK9 (P:=P) (S:=S) (w:=w) (ts:=tl.toArray) (ty:=o.type) hx hy hz h.2
   exact ⟨v,y,h1,h2,fun w' hk=>by simp [resolve,invoke,builtin,h3 w' hk]⟩
 ·cases hc
end Go.Am
