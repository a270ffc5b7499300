/- A logic of programs over abstract values: joined texts. -/
import Derived.Test.YtingdebioipemaaGreatDoorAmC
import Derived.Below
import Derived.ChangeSame
import Derived.ChangeArms
import Derived.WideKeyArgs
import Derived.RowKit
import Derived.OpenShut
import Derived.Sort.Grow
import Derived.Deep.Draws
import Derived.Lib.LaidTab
import Derived.Lib.ItoaLen
import Derived.Lib.ItoaNum
import Derived.Stop.LaidErr
import Derived.Sort.Row
import Derived.RangeFuncNested
import Derived.RangeFuncRecord
import Derived.RangeFuncIn
import Derived.RangeFuncSeq
import Derived.RangeFuncOwn
import Derived.RangeFuncLeaves
namespace Go.Am
open Go
variable {P:Program} {G:Nat→Option V}
def ZB (K:Fr→H→Prop) (Q:AE→Fr→H→Prop):AE→Fr→H→Prop
 | .nrm,fr,σ=>K fr σ
 | e,fr,σ=>Q e fr σ
def wc (P:Program) (G:Nat→Option V) (n base:Nat):AC→Fr→H→(AE→Fr→H→Prop)→Prop
 | .skip,fr,σ,Q=>Q .nrm fr σ
 | .reg t dead,fr,σ,Q=>wt P G n base t fr σ fun fr σ=>Q .nrm (fdel fr dead) σ
 | .seq a b,fr,σ,Q=>wc P G n base a fr σ (ZB (fun fr σ=>wc P G n base b fr σ Q) Q)
 | .cond c a b,fr,σ,Q=>condK (arg G fr c) (wc P G n base a fr σ Q) (wc P G n base b fr σ Q)
 | .block id a,fr,σ,Q=>wc P G n base a fr σ (Qzd id Q)
 | .loop a,fr,σ,Q=>W P G n base (.loop a) fr σ Q
 | .exit id,fr,σ,Q=>Q (.ex id) fr σ
 | .ret,fr,σ,Q=>Q .ret fr σ
 | .bad,_,_,_=>False
theorem condK.mono {c:V} {A B A' B':Prop} (h:condK c A B) (ha:A→A') (hb:B→B'):condK c A' B':=by
 unfold condK at *
 split at h
 ·exact ⟨fun e=>ha (h.1 e),fun e=>hb (h.2 e)⟩
 ·exact h
def Shift (G:Nat→Option V) (n base:Nat) (fr:Fr) (σ:H) (fr':Fr) (σ':H):Prop :=
 ∀ I ρ w a,Rel G I ρ σ w→FR I ρ n fr a→base≤σ.o.length→∃ I' ρ',Rel G I' ρ' σ' w∧FR I' ρ' n fr' a∧Step base I ρ σ w I' ρ' σ' w∧base≤σ'.o.length
theorem Shift.refl (n base:Nat) (fr:Fr) (σ:H):Shift G n base fr σ fr σ:=fun I ρ w a hR hF hb=>⟨I,ρ,hR,hF,Step.refl _ _ _ _ _,hb⟩
theorem Shift.trans {n base:Nat} {fr fr' fr'':Fr} {σ σ' σ'':H} (h:Shift G n base fr σ fr' σ') (k:Shift G n base fr' σ' fr'' σ''):Shift G n base fr σ fr'' σ'':=fun I ρ w a hR hF hb=>by
 obtain ⟨I1,ρ1,h1,h2,h3,h4⟩:=h I ρ w a hR hF hb
 obtain ⟨I2,ρ2,k1,k2,k3,k4⟩:=k I1 ρ1 w a h1 h2 h4
 exact ⟨I2,ρ2,k1,k2,h3.trans k3,k4⟩
variable {c:AC}
theorem Qtj {n base:Nat} {fr fr':Fr} {σ σ':H} {Q:AE→Fr→H→Prop} (s:Shift G n base fr σ fr' σ') (h:W P G n base c fr' σ' Q):W P G n base c fr σ Q:=by
 intro code M dd hc I ρ w a hR hF hb F hM mm
 obtain ⟨I1,ρ1,h1,h2,h3,h4⟩:=s I ρ w a hR hF hb
 exact wpIn_mono (h code M dd hc I1 ρ1 w a h1 h2 h4 F hM mm) fun _ _ _ hp=>hp.after h3
theorem W_post {n base:Nat} {fr:Fr} {σ:H} {Q:AE→Fr→H→Prop} (h:W P G n base c fr σ fun e fr σ=>∃ fr' σ',Shift G n base fr σ fr' σ'∧Q e fr' σ'):W P G n base c fr σ Q:=by
 intro code M dd hc I ρ w a hR hF hb F hM mm
 refine wpIn_mono (h code M dd hc I ρ w a hR hF hb F hM mm) fun e a' w' hp=>?_
 obtain ⟨ae,I',ρ',fr',σ',he,g1,g2,g3,g4,fr2,σ2,hs,hq⟩:=hp
 obtain ⟨I2,ρ2,k1,k2,k3,k4⟩:=hs I' ρ' w' a' g1 g2 g4
 exact ⟨ae,I2,ρ2,fr2,σ2,he,k1,k2,g3.trans k3,k4,hq⟩
theorem W_inv {n base:Nat} {x:AC} {Q:AE→Fr→H→Prop} (J:Nat→Fr→H→Prop)
 (round:∀ m fr σ,J m fr σ→W P G n base x fr σ (ZB (fun fr σ=>∃ m' fr' σ',m'<m∧Shift G n base fr σ fr' σ'∧J m' fr' σ') Q)) {m0:Nat} {fr0:Fr} {σ0:H} (h0:J m0 fr0 σ0) :
 W P G n base (.loop x) fr0 σ0 Q:=by
 refine W_loop (α:=Nat × Fr × H) (fun s=>s.2.1) (fun s=>s.2.2) (fun s=>s.1) (fun s=>J s.1 s.2.1 s.2.2) (fun s hs=>?_) (m0,fr0,σ0) h0
 refine W_post ((round s.1 s.2.1 s.2.2 hs).conseq fun e fr σ he=>?_)
 cases e with
 | nrm =>
   obtain ⟨m',fr',σ',h1,h2,h3⟩:=he
   exact ⟨fr',σ',h2,(m',fr',σ'),h3,h1,fun _ _ _ h=>h,rfl⟩
 | ex id=>exact ⟨fr,σ,Shift.refl _ _ _ _,he⟩
 | ret=>exact ⟨fr,σ,Shift.refl _ _ _ _,he⟩
def rounds (P:Program) (G:Nat→Option V) (n base:Nat) (x:AC) (Q:AE→Fr→H→Prop):Nat→Fr→H→Prop
 | 0,_,_=>False
 | k+1,fr,σ=>wc P G n base x fr σ (ZB (fun fr σ=>rounds P G n base x Q k fr σ) Q)
def endK (G:Nat→Option V) (res:List RV) (Q:V→H→Prop):AE→Fr→H→Prop
 | .ex _,_,_=>False
 | _,fr,σ=>QnN G fr σ res fun l=>Q (QgD l) σ
variable {A:AF} {T:Nat→Option AF}
theorem QM (hT:Qn P T) {f:Nat} (hf:T f=some A) {base:Nat} {args:List V} {σ:H} {Q:V→H→Prop} (hn:args.length≤A.n)
 (h:W P G A.n base A.body (QyL 0 args) σ (endK G A.res Q)):C P G base f args σ Q:=by
 obtain ⟨_,M,dd,h2⟩:=hT f A hf
 refine C_body h2 hn (h.conseq fun e fr σ he=>?_)
 cases e with
 | ex id=>exact he.elim
 | nrm=>exact he
 | ret=>exact he
def wk (P:Program) (G:Nat→Option V) (n base:Nat):Nat→AC→Fr→H→(AE→Fr→H→Prop)→Prop
 | 0,c,fr,σ,Q=>W P G n base c fr σ Q
 | k+1,.seq a b,fr,σ,Q=>wc P G n base a fr σ (ZB (fun fr σ=>wk P G n base k b fr σ Q) Q)
 | _+1,c,fr,σ,Q=>wc P G n base c fr σ Q
theorem Qzh (hT:Qn P T) {f:Nat} (hf:T f=some A) {base:Nat} {first args cap:List V} {σ:H} {Q:V→H→Prop} (h:C P G base f (first++args++cap) σ Q):CV P G base (.fn (.func f) first cap) args σ Q :=
 ⟨(hT f A hf).1,h⟩
section rules
variable {n base:Nat} {fr:Fr} {σ:H} {Q:AE→Fr→H→Prop}
@[go_sem ↓] theorem wc_skip:wc P G n base .skip fr σ Q=Q .nrm fr σ:=rfl
@[go_sem ↓] theorem wc_reg {t dead}:wc P G n base (.reg t dead) fr σ Q=wt P G n base t fr σ fun fr σ=>Q .nrm (fdel fr dead) σ:=rfl
@[go_sem ↓] theorem wc_seq {a b}:wc P G n base (.seq a b) fr σ Q=wc P G n base a fr σ (ZB (fun fr σ=>wc P G n base b fr σ Q) Q):=rfl
@[go_sem ↓] theorem wc_cond {c a b}:wc P G n base (.cond c a b) fr σ Q=condK (arg G fr c) (wc P G n base a fr σ Q) (wc P G n base b fr σ Q):=rfl
@[go_sem ↓] theorem wc_block {id a}:wc P G n base (.block id a) fr σ Q=wc P G n base a fr σ (Qzd id Q):=rfl
@[go_sem ↓] theorem wc_loop {a}:wc P G n base (.loop a) fr σ Q=W P G n base (.loop a) fr σ Q:=rfl
@[go_sem ↓] theorem wc_exit {id}:wc P G n base (.exit id) fr σ Q=Q (.ex id) fr σ:=rfl
@[go_sem ↓] theorem wc_ret:wc P G n base .ret fr σ Q=Q .ret fr σ:=rfl
@[go_sem ↓] theorem wc_bad:wc P G n base .bad fr σ Q=False:=rfl
@[go_sem ↓] theorem seqQ_nrm {K:Fr→H→Prop}:ZB K Q .nrm fr σ=K fr σ:=rfl
@[go_sem ↓] theorem seqQ_ex {K:Fr→H→Prop} {id}:ZB K Q (.ex id) fr σ=Q (.ex id) fr σ:=rfl
@[go_sem ↓] theorem seqQ_ret {K:Fr→H→Prop}:ZB K Q .ret fr σ=Q .ret fr σ:=rfl
@[go_sem ↓] theorem blkK_nrm {id}:Qzd id Q .nrm fr σ=Q .nrm fr σ:=rfl
@[go_sem ↓] theorem blkK_ret {id}:Qzd id Q .ret fr σ=Q .ret fr σ:=rfl
@[go_sem ↓] theorem blkK_ex {id id'}:Qzd id Q (.ex id') fr σ=if id'=id then Q .nrm fr σ else Q (.ex id') fr σ:=rfl
@[go_sem ↓] theorem rounds_succ {x k}:rounds P G n base x Q (k+1) fr σ=wc P G n base x fr σ (ZB (fun fr σ=>rounds P G n base x Q k fr σ) Q):=rfl
@[go_sem ↓] theorem endK_nrm {res KV}:endK G res KV .nrm fr σ=QnN G fr σ res fun l=>KV (QgD l) σ:=rfl
@[go_sem ↓] theorem endK_ret {res KV}:endK G res KV .ret fr σ=QnN G fr σ res fun l=>KV (QgD l) σ:=rfl
@[go_sem ↓] theorem wk_zero {c}:wk P G n base 0 c fr σ Q=W P G n base c fr σ Q:=by simp [wk]
@[go_sem ↓] theorem wk_seq {k a b}:wk P G n base (k+1) (.seq a b) fr σ Q=wc P G n base a fr σ (ZB (fun fr σ=>wk P G n base k b fr σ Q) Q):=rfl
@[go_sem ↓] theorem wk_reg {k t dead}:wk P G n base (k+1) (.reg t dead) fr σ Q=wt P G n base t fr σ fun fr σ=>Q .nrm (fdel fr dead) σ:=rfl
@[go_sem ↓] theorem wk_cond {k c a b}:wk P G n base (k+1) (.cond c a b) fr σ Q=condK (arg G fr c) (wc P G n base a fr σ Q) (wc P G n base b fr σ Q):=rfl
@[go_sem ↓] theorem wk_block {k id a}:wk P G n base (k+1) (.block id a) fr σ Q=wc P G n base a fr σ (Qzd id Q):=rfl
@[go_sem ↓] theorem wk_loop {k a}:wk P G n base (k+1) (.loop a) fr σ Q=W P G n base (.loop a) fr σ Q:=rfl
@[go_sem ↓] theorem wk_exit {k id}:wk P G n base (k+1) (.exit id) fr σ Q=Q (.ex id) fr σ:=rfl
@[go_sem ↓] theorem wk_ret {k}:wk P G n base (k+1) .ret fr σ Q=Q .ret fr σ:=rfl
@[go_sem ↓] theorem wk_skip {k}:wk P G n base (k+1) .skip fr σ Q=Q .nrm fr σ:=rfl
end rules
end Go.Am
namespace Go.Am
open Go
variable {P:Program} {G:Nat→Option V} {I:Imm} {ρ:Names} {σ:H} {w:World} {n base:Nat} {fr:Fr}
theorem Shift.frame {fr':Fr} (h:∀ t,Qi fr' t=Qi fr t∨Qi fr' t=.any):Shift G n base fr σ fr' σ:=fun I ρ w a hR hF hb =>
 ⟨I,ρ,hR,⟨hF.defers,hF.size,fun t=>by rcases h t with e | e <;> rw [e]; exact hF.vals t; exact .any _ _⟩,Step.refl _ _ _ _ _,hb⟩
theorem Rel.drop (R:Rel G I ρ σ w) {o':List (Option Ob)} {t':Nat} (ht:σ.t≤t') (h:∀ (n:Nat) (ob:Ob),o'[n]?=some (some ob)→σ.o[n]?=some (some ob)):Rel G I ρ ⟨t',o'⟩ w∧Step base I ρ σ w I ρ ⟨t',o'⟩ w:=by
 have hblk:∀ n b,blk ρ ⟨t',o'⟩ n=some b→blk ρ σ n=some b:=fun n b e=>by
  unfold blk at e ⊢
  split at e
  ·rename_i ob ho
   rw [h n ob ho]
   exact e
  ·cases e
 refine ⟨⟨fun n ob ho=>R.objs n ob (h n ob ho),fun n v l hl=>Nat.lt_of_lt_of_le (R.fresh n v l hl) ht,fun n m b e e'=>R.sep n m b (hblk n b e) (hblk m b e'),R.imm,fun n b e o=>R.immsep n b (hblk n b e) o,R.globs⟩,
  ⟨rfl,rfl,rfl,Nat.le_refl _,.refl _,.refl _,ht,fun _ _ _ hl=>.inl hl,fun _ _ _=>rfl,fun n b hn e=>.inr ⟨n,hn,hblk n b e⟩,fun b o h' h''=>absurd h' h'',fun n hn=>?_⟩⟩
 cases hn':o'[n]? with
 | none=>exact .inr fun ob e=>by simp [hn'] at e
 | some x=>cases x with
   | none=>exact .inr fun ob e=>by simp [hn'] at e
   | some ob=>exact .inl (by simp [hn',h n ob hn'])
def XJ:List (Option Ob)→List (Option Ob)→Prop
 | [],_=>True
 | none::r,l=>XJ r l.tail
 | some ob::r,l=>l.head?=some (some ob)∧XJ r l.tail
theorem QeX:∀ {o' o:List (Option Ob)},XJ o' o→∀ (n:Nat) (ob:Ob),o'[n]?=some (some ob)→o[n]?=some (some ob)
 | [],_,_,n,ob,h=>by simp at h
 | none::r,l,hs,n,ob,h=>by
   cases n with
   | zero=>simp at h
   | succ n =>
     have:=QeX (o':=r) (o:=l.tail) hs n ob (by simpa using h)
     cases l with
     | nil=>simp at this
     | cons x l=>simpa using this
 | some x::r,l,hs,n,ob,h=>by
   cases l with
   | nil=>simp [XJ] at hs
   | cons y l =>
     simp only [XJ,List.head?_cons,Option.some.injEq,List.tail_cons] at hs
     cases n with
     | zero=>simp at h; subst h; simp [hs.1]
     | succ n=>simpa using QeX (o':=r) (o:=l) hs.2 n ob (by simpa using h)
theorem Shift.drop {o':List (Option Ob)} {t':Nat} (h:XJ o' σ.o) (ht:σ.t≤t') (hb:base≤o'.length):Shift G n base fr σ fr ⟨t',o'⟩:=fun I ρ w a hR hF _ =>
 let ⟨h1,h2⟩:=hR.drop (base:=base) ht (QeX h)
 ⟨I,ρ,h1,hF,h2,hb⟩
def Qbc (s len:Nat) (cs:List V):List V:=if s=1 then cs.take len else Qbw s len cs
mutual
def X3 (k v:Nat) (cs:List V):V→V
 | .sl k' v' off s len lim=>if k'=k∧v'=v then (if off+len * s≤cs.length∧s≠0 then .lst s (Qbc s len (cs.drop off)) false else .any) else .sl k' v' off s len lim
 | .ptr k' v' off=>if k'=k∧v'=v then (if cs=[] then .any else .ref (.agg cs) off) else .ptr k' v' off
 | .agg l=>.agg (Qix k v cs l)
 | .tup l=>.tup (Qix k v cs l)
 | .fn f a b=>.fn f (Qix k v cs a) (Qix k v cs b)
 | .iface t x=>.iface t (X3 k v cs x)
 | x=>x
def Qix (k v:Nat) (cs:List V):List V→List V
 | []=>[]
 | u::l=>X3 k v cs u::Qix k v cs l
end
theorem Qha {k v:Nat} {cs:List V}:∀ l,Qix k v cs l=l.map (X3 k v cs)
 | []=>by simp [Qix]
 | u::l=>by simp [Qix,Qha l]
theorem QgC (s len:Nat) (cs:List V) (h:len * s≤cs.length):(Qbc s len cs).length=len:=by
 unfold Qbc
 split
 ·rename_i e; subst e; simp; omega
 ·exact (Qfu len cs).1
variable {cs:List V}
theorem Qk1 {s len:Nat} (h:len * s≤cs.length) (h1:∀ v∈cs,v.cells=[v]) {j:Nat} {v:V} (hj:(Qbc s len cs)[j]?=some v):v.cells=(cs.drop (j * s)).take s:=by
 unfold Qbc at hj
 split at hj
 ·rename_i e
  subst e
  rw [List.getElem?_take] at hj
  split at hj
  ·rename_i hlt
   rw [h1 v (List.mem_of_getElem? hj)]
   obtain ⟨hl,he⟩:=List.getElem?_eq_some_iff.1 hj
   rw [Nat.mul_one]
   rw [List.drop_eq_getElem_cons hl,List.take_succ_cons,List.take_zero,he]
  ·cases hj
 ·rw [(Qfu len cs).2 j v hj]
  rfl
def QuW (I:Imm) (ρ:Names) (k v:Nat) (cs:List V):Prop :=
 (∀ u∈cs,u.cells=[u])∧∀ b o e,ρ k v=some (.at b o e)→∃ f:Nat→Value,∀ (j:Nat) (u:V),cs[j]?=some u→I b (o+j)=some (f j)∧VR I noNames u (f j)
theorem VR.frz {k v:Nat} (h:QuW I ρ k v cs) {u:V} {x:Value} (hv:VR I ρ u x):VR I ρ (X3 k v cs u) x:=by
 have main:∀ {ρ':Names} {u:V} {x:Value},VR I ρ' u x→ρ'=ρ→VR I ρ' (X3 k v cs u) x:=by
  intro ρ' u x hv
  induction hv with
  | agg ρ' l xs hl _ ih =>
    intro e
    simp only [X3,Qha]
    refine .agg _ _ _ (by simpa using hl) fun j u x h1 h2=>?_
    simp only [List.getElem?_map,Option.map_eq_some_iff] at h1
    obtain ⟨u0,h1,rfl⟩:=h1
    exact ih j u0 x h1 h2 e
  | tup ρ' l xs hl _ ih =>
    intro e
    simp only [X3,Qha]
    refine .tup _ _ _ (by simpa using hl) fun j u x h1 h2=>?_
    simp only [List.getElem?_map,Option.map_eq_some_iff] at h1
    obtain ⟨u0,h1,rfl⟩:=h1
    exact ih j u0 x h1 h2 e
  | fn ρ' f l xs m ys hl hm _ _ ih1 ih2 =>
    intro e
    simp only [X3,Qha]
    refine .fn _ _ _ _ _ _ (by simpa using hl) (by simpa using hm) (fun j u x h1 h2=>?_) (fun j u x h1 h2=>?_)
    ·simp only [List.getElem?_map,Option.map_eq_some_iff] at h1
     obtain ⟨u0,h1,rfl⟩:=h1
     exact ih1 j u0 x h1 h2 e
    ·simp only [List.getElem?_map,Option.map_eq_some_iff] at h1
     obtain ⟨u0,h1,rfl⟩:=h1
     exact ih2 j u0 x h1 h2 e
  | iface ρ' t x y _ ih=>intro e; simp only [X3]; exact .iface _ _ _ _ (ih e)
  | ptr ρ' m u off b o e hm =>
    intro e'
    subst e'
    simp only [X3]
    split
    ·rename_i hk
     obtain ⟨rfl,rfl⟩:=hk
     split
     ·exact .any _ _
     ·obtain ⟨f,hf⟩:=h.2 b o e hm
      exact .ref _ _ _ b o f (fun j c hc=>(hf j c hc).1) (fun j c hc=>(hf j c hc).2)
    ·exact .ptr _ _ _ _ _ _ _ hm
  | sl ρ' m u off sz len lim b o e cap hm hlen h3 h4 =>
    intro e'
    subst e'
    simp only [X3]
    split
    ·rename_i hk
     obtain ⟨rfl,rfl⟩:=hk
     split
     ·rename_i hb
      have hrl:=QgC sz len (cs.drop off) (by simp; omega)
      by_cases h0:len=0
      ·subst h0
       have:Qbc sz 0 (cs.drop off)=[]:=List.eq_nil_of_length_eq_zero hrl
       rw [this]
       exact .lstN _ _ _ _ _ fun h=>by cases h
      ·obtain ⟨f,hf⟩:=h.2 b o e hm
       have hdl:len * sz≤(cs.drop off).length:=by simp; omega
       have h1':∀ v∈cs.drop off,v.cells=[v]:=fun v hv=>h.1 v (List.mem_of_mem_drop hv)
       have hcell:∀ (j:Nat) (u:V),(Qbc sz len (cs.drop off))[j]?=some u→∀ (i:Nat) (c:V),u.cells[i]?=some c→cs[off+j * sz+i]?=some c:=fun j u hj i c hc=>by
        rw [Qk1 hdl h1' hj,List.getElem?_take] at hc
        split at hc
        ·rw [List.getElem?_drop,List.getElem?_drop] at hc
         rw [← hc]; congr 1; omega
        ·cases hc
       suffices hs:VR I ρ' (.lst sz (Qbc sz len (cs.drop off)) false) (.slice (some ⟨b,o+off,none⟩) (Qbc sz len (cs.drop off)).length cap) by rw [hrl] at hs; exact hs
       refine .lst _ _ _ _ b (o+off) cap (fun j i=>f (off+j * sz+i)) (fun e=>?_) (by rw [hrl]; exact hlen) (fun h=>by cases h) (fun j u hj=>?_) (fun j u hj i c hc=>?_) (fun j u hj i c hc=>?_)
       ·rw [e] at hrl; simp at hrl; omega
       ·have hjl:j<len:=by rw [← hrl]; exact (List.getElem?_eq_some_iff.1 hj).1
        rw [Qk1 hdl h1' hj]
        simp only [List.length_take,List.length_drop]
        have:(j+1) * sz≤len * sz:=Nat.mul_le_mul_right _ hjl
        rw [Nat.succ_mul] at this
        omega
       ·have:=(hf _ c (hcell j u hj i c hc)).1
        rw [← this]; congr 1; omega
       ·exact (hf _ c (hcell j u hj i c hc)).2
     ·exact .any _ _
    ·exact .sl _ _ _ _ _ _ _ _ _ _ _ hm hlen h3 h4
  | slN ρ' m u sz lim a hm h3 =>
    intro e'
    subst e'
    simp only [X3]
    split
    ·rename_i hk
     split
     ·rename_i hb
      have hrl:=QgC sz 0 (cs.drop 0) (by simp)
      rw [List.eq_nil_of_length_eq_zero hrl]
      exact .lstN _ _ _ _ _ fun h=>by cases h
     ·exact .any _ _
    ·exact .slN _ _ _ _ _ _ hm h3
  | any=>intro _; exact .any _ _
  | int=>intro _; exact .int _ _ _
  | bool=>intro _; exact .bool _ _
  | str=>intro _; exact .str _ _
  | val=>intro _; exact .val _ _
  | ref _ _ _ _ _ f h1 h2=>intro _; simp only [X3]; exact .ref _ _ _ _ _ f h1 h2
  | lst _ _ _ _ _ _ _ f h0 h1 h2 h3 h4 h5=>intro _; simp only [X3]; exact .lst _ _ _ _ _ _ _ f h0 h1 h2 h3 h4 h5
  | lstN _ _ _ _ _ h=>intro _; simp only [X3]; exact .lstN _ _ _ _ _ h
  | mp _ _ _ _ _ _ h=>intro _; simp only [X3]; exact .mp _ _ _ _ _ _ h
 exact main hv rfl
def Ob.mapV (g:V→V):Ob→Ob
 | .arr v T cs=>.arr v T (cs.map g)
 | .map v es=>.map v (es.map fun p=>(p.1,g p.2))
 | .it v a b c s=>.it v a b c s
theorem Ob.mapV_ver (g:V→V) (ob:Ob):(ob.mapV g).ver=ob.ver:=by cases ob <;> rfl
theorem ObR.mapV {m:Nat} {ob:Ob} {g:V→V} (hg:∀ u x,VR I ρ u x→VR I ρ (g u) x) (h:ObR I ρ w m ob):ObR I ρ w m (ob.mapV g):=by
 cases ob with
 | arr v T cs =>
   rcases h with ⟨h1,h2⟩ | ⟨b,o,e,c,lo,hi,h1,h2,h3,h4,h5,h6⟩
   ·exact .inl ⟨h1,by simp [h2]⟩
   ·refine .inr ⟨b,o,e,c,lo,hi,h1,h2,by simpa using h3,h4,h5,fun j u hu=>?_⟩
    simp only [List.getElem?_map,Option.map_eq_some_iff] at hu
    obtain ⟨u0,hu,rfl⟩:=hu
    obtain ⟨x,g1,g2,g3⟩:=h6 j u0 hu
    exact ⟨x,g1,hg _ _ g2,g3⟩
 | map v es =>
   obtain ⟨b,o,e,c,h1,h2,h3,h4,h5⟩:=h
   refine ⟨b,o,e,c,h1,h2,by simpa using h3,h4,fun j p x hp hx=>?_⟩
   simp only [List.getElem?_map,Option.map_eq_some_iff] at hp
   obtain ⟨p0,hp,rfl⟩:=hp
   exact ⟨(h5 j p0 x hp hx).1,hg _ _ (h5 j p0 x hp hx).2⟩
 | it v a b c s=>exact h
def Q5 (g:V→V):Nat→List (Option Ob)→List (Option Ob)
 | _,[]=>[]
 | 0,x::l=>x.map (Ob.mapV g)::Q5 g 0 l
 | k+1,x::l=>x::Q5 g k l
theorem Y4 (g:V→V):∀ k l,(Q5 g k l).length=l.length
 | 0,[]=>rfl
 | k+1,[]=>rfl
 | 0,x::l=>by simp [Q5,Y4 g 0 l]
 | k+1,x::l=>by simp [Q5,Y4 g k l]
theorem QaX (g:V→V):∀ k l m,(Q5 g k l)[m]?=if m<k then l[m]? else l[m]?.map (Option.map (Ob.mapV g))
 | 0,[],m=>by simp [Q5]
 | k+1,[],m=>by simp [Q5]
 | 0,x::l,m=>by cases m with
   | zero=>simp [Q5]
   | succ m=>have:=QaX g 0 l m; simp at this; simp [Q5,this]
 | k+1,x::l,m=>by cases m with
   | zero=>simp [Q5]
   | succ m=>have:=QaX g k l m; simp [Q5,this]
theorem Rel.mapV (R:Rel G I ρ σ w) {g:V→V} (hg:∀ u x,VR I ρ u x→VR I ρ (g u) x):Rel G I ρ ⟨σ.t,Q5 g base σ.o⟩ w∧Step base I ρ σ w I ρ ⟨σ.t,Q5 g base σ.o⟩ w:=by
 have hob:∀ (m:Nat) (ob:Ob),(Q5 g base σ.o)[m]?=some (some ob)→∃ ob0:Ob,σ.o[m]?=some (some ob0)∧(ob=ob0∨ob=ob0.mapV g):=fun m ob h=>by
  rw [QaX] at h
  split at h
  ·exact ⟨ob,h,.inl rfl⟩
  ·simp only [Option.map_eq_some_iff] at h
   obtain ⟨x,h1,y,h2,rfl⟩:=h
   subst h2
   exact ⟨y,h1,.inr rfl⟩
 have hblk:∀ m,blk ρ ⟨σ.t,Q5 g base σ.o⟩ m=blk ρ σ m:=fun m=>by
  unfold blk
  rw [QaX]
  by_cases hm:m<base
  ·rw [if_pos hm]
  ·rw [if_neg hm]
   cases h:σ.o[m]? with
   | none=>simp
   | some x=>cases x with
     | none=>simp
     | some ob=>simp [Ob.mapV_ver]
 refine ⟨⟨fun m ob h=>?_,R.fresh,fun a b c e e'=>R.sep a b c (by rw [← hblk]; exact e) (by rw [← hblk]; exact e'),R.imm,fun m b e o=>R.immsep m b (by rw [← hblk]; exact e) o,R.globs⟩,
  ⟨rfl,rfl,rfl,Nat.le_refl _,.refl _,.refl _,Nat.le_refl _,fun _ _ _ h=>.inl h,fun _ _ _=>rfl,fun m b hm e=>.inr ⟨m,hm,by rw [← hblk]; exact e⟩,fun b o h h'=>absurd h h',fun m hm=>.inl (by rw [QaX,if_pos hm])⟩⟩
 obtain ⟨ob0,h0,h1 | h1⟩:=hob m ob h
 ·rw [h1]; exact R.objs m _ h0
 ·rw [h1]; exact (R.objs m _ h0).mapV hg
theorem Qn3 (g:V→V) (hg:g .any=.any):∀ (fr:Fr) (t:Nat),Qi (fr.map fun p=>(p.1,g p.2)) t=g (Qi fr t)
 | [],t=>by simp [Qi,hg]
 | (i,v)::r,t=>by
   simp only [List.map_cons,Qi]
   split
   ·rfl
   ·exact Qn3 g hg r t
def Qd4 (k v:Nat) (cs:List V) (fr:Fr):Fr:=fr.map fun p=>(p.1,X3 k v cs p.2)
theorem Qh3 {k v cs}:Qd4 k v cs []=[]:=rfl
theorem Qf7 {k v cs p fr}:Qd4 k v cs (p::fr)=(p.1,X3 k v cs p.2)::Qd4 k v cs fr:=rfl
theorem Shift.freeze {k v T:Nat} {cs:List V} (hbase:base≤k) (ho:σ.o[k]?=some (some (.arr v T cs))) (hn:Qb cs=true) :
 Shift G n base fr σ (Qd4 k v cs fr) ⟨σ.t,Q5 (X3 k v cs) base (σ.o.set k none)⟩:=fun I ρ w a hR hF hb=>by
 obtain ⟨I',hle,h1,h2,h3⟩:=hR.freeze hbase ho hn
 have hc:∀ u∈cs,u.cells=[u]:=fun u hu=>by
  obtain ⟨j,hj⟩:=List.mem_iff_getElem?.1 hu
  rcases hR.objs k _ ho with ⟨_,h0⟩ | ⟨b,o,e,c,lo,hi,_,_,_,_,_,h6⟩
  ·rw [h0] at hu; cases hu
  ·obtain ⟨x,g1,g2,g3⟩:=h6 j u hj
   cases g2 <;> first | rfl | (simp [one,Value.oneCell'] at g3; done)
 have hF':QuW I' ρ k v cs:=⟨hc,h3⟩
 obtain ⟨k1,k2⟩:=Rel.mapV (base:=base) h1 (g:=X3 k v cs) (fun u x hu=>hu.frz hF')
 refine ⟨I',ρ,k1,⟨hF.defers,hF.size,fun t=>?_⟩,h2.trans k2,by rw [Y4]; simpa using hb⟩
 unfold Qd4
 rw [Qn3 _ (by simp [X3])]
 exact VR.frz hF' ((hF.vals t).mono hle (Names.le.refl _))
theorem Shift.own {s z sz T:Nat} (hs:Qi fr s=.lst z [] true) (hlt:s<n):Shift G n base fr σ (Qey fr s (.sl σ.o.length σ.t 0 sz 0 none)) (σ.push (.arr σ.t T [])):=fun I ρ w a hR hF hb=>by
 obtain ⟨h1,h2⟩:=hR.nowhere (T:=T) (k:=σ.o.length) hb (σ':=σ.push (.arr σ.t T [])) (by simp [H.push]) (fun m hm=>by
  simp only [H.push,List.getElem?_append]
  split
  ·rfl
  ·have:m - σ.o.length≠0:=by omega
   rw [List.getElem?_eq_none (l:=σ.o) (by omega)]
   cases h:m - σ.o.length with
   | zero=>exact absurd h this
   | succ j=>rfl) rfl
 refine ⟨I,_,h1,⟨hF.defers,hF.size,fun t=>?_⟩,h2,by simp [H.push]; omega⟩
 rw [Qdw]
 split
 ·rename_i e
  subst e
  have:=hF.vals s
  rw [hs] at this
  generalize a.tmps.getD s undef=x at this
  cases this with
  | lstN _ _ _ a cap h =>
    rw [h rfl]
    exact .slN _ _ _ _ _ _ (Names.add_self _ _ _ _) fun m h=>by cases h
  | lst _ _ _ _ _ _ _ f h0=>exact absurd rfl h0
 ·exact (hF.vals t).mono (Imm.le.refl _) h2.names
end Go.Am
namespace Go.Am
open Go
variable {P:Program} {G:Nat→Option V}
mutual
def V.ren (r:Nat→Nat):V→V
 | .ptr n v off=>.ptr (r n) v off
 | .sl n v off sz len lim=>.sl (r n) v off sz len lim
 | .mp n v=>.mp (r n) v
 | .agg l=>.agg (QlZ r l)
 | .tup l=>.tup (QlZ r l)
 | .fn f a b=>.fn f (QlZ r a) (QlZ r b)
 | .iface t x=>.iface t (V.ren r x)
 | x=>x
def QlZ (r:Nat→Nat):List V→List V
 | []=>[]
 | u::l=>V.ren r u::QlZ r l
end
mutual
def V.under (k:Nat):V→Bool
 | .ptr n _ _=>decide (n<k)
 | .sl n _ _ _ _ _=>decide (n<k)
 | .mp n _=>decide (n<k)
 | .agg l=>QcM k l
 | .tup l=>QcM k l
 | .fn _ a b=>QcM k a&&QcM k b
 | .iface _ x=>V.under k x
 | _=>true
def QcM (k:Nat):List V→Bool
 | []=>true
 | u::l=>V.under k u&&QcM k l
end
theorem Qe3 {r:Nat→Nat}:∀ l,QlZ r l=l.map (V.ren r)
 | []=>by simp [QlZ]
 | u::l=>by simp [QlZ,Qe3 l]
mutual
theorem V.ren_nameless {r:Nat→Nat}:∀ u:V,Qd u=true→V.ren r u=u
 | .any,_=>by rw [V.ren] <;> simp
 | .int ..,_=>by rw [V.ren] <;> simp
 | .bool ..,_=>by rw [V.ren] <;> simp
 | .str ..,_=>by rw [V.ren] <;> simp
 | .val ..,_=>by rw [V.ren] <;> simp
 | .agg l,h=>by rw [V.ren,Zm l (by simpa [Qd] using h)]
 | .tup l,h=>by rw [V.ren,Zm l (by simpa [Qd] using h)]
 | .ptr ..,h=>by simp [Qd] at h
 | .ref ..,_=>by rw [V.ren] <;> simp
 | .sl ..,h=>by simp [Qd] at h
 | .lst ..,_=>by rw [V.ren] <;> simp
 | .mp ..,h=>by simp [Qd] at h
 | .fn f a b,h=>by
   simp only [Qd,Bool.and_eq_true] at h
   rw [V.ren,Zm a h.1,Zm b h.2]
 | .iface t x,h=>by rw [V.ren,V.ren_nameless x (by simpa [Qd] using h)]
theorem Zm {r:Nat→Nat}:∀ l:List V,Qb l=true→QlZ r l=l
 | [],_=>by rw [QlZ]
 | u::l,h=>by
   simp only [Qb,Bool.and_eq_true] at h
   rw [QlZ,V.ren_nameless u h.1,Zm l h.2]
end
mutual
theorem V.under_nameless {k:Nat}:∀ u:V,Qd u=true→V.under k u=true
 | .any,_=>by rw [V.under] <;> simp
 | .int ..,_=>by rw [V.under] <;> simp
 | .bool ..,_=>by rw [V.under] <;> simp
 | .str ..,_=>by rw [V.under] <;> simp
 | .val ..,_=>by rw [V.under] <;> simp
 | .agg l,h=>by rw [V.under,YF l (by simpa [Qd] using h)]
 | .tup l,h=>by rw [V.under,YF l (by simpa [Qd] using h)]
 | .ptr ..,h=>by simp [Qd] at h
 | .ref ..,_=>by rw [V.under] <;> simp
 | .sl ..,h=>by simp [Qd] at h
 | .lst ..,_=>by rw [V.under] <;> simp
 | .mp ..,h=>by simp [Qd] at h
 | .fn f a b,h=>by
   simp only [Qd,Bool.and_eq_true] at h
   rw [V.under,YF a h.1,YF b h.2]; rfl
 | .iface t x,h=>by rw [V.under,V.under_nameless x (by simpa [Qd] using h)]
theorem YF {k:Nat}:∀ l:List V,Qb l=true→QcM k l=true
 | [],_=>by rw [QcM]
 | u::l,h=>by
   simp only [Qb,Bool.and_eq_true] at h
   rw [QcM,V.under_nameless u h.1,YF l h.2]; rfl
end
def Ob.ren (r:Nat→Nat):Ob→Ob
 | .arr v T cs=>.arr v T (QlZ r cs)
 | .map v es=>.map v (es.map fun p=>(p.1,V.ren r p.2))
 | .it v nm mv cnt s=>.it v (r nm) mv cnt s
def Ob.under (k:Nat):Ob→Bool
 | .arr _ _ cs=>QcM k cs
 | .map _ es=>es.all fun p=>V.under k p.2
 | .it _ nm _ _ _=>decide (nm<k)
theorem VR.up {I:Imm} {ρS ρB:Names} {r:Nat→Nat} (h:∀ n v l,ρS n v=some l→ρB (r n) v=some l) {u:V} {x:Value} (hv:VR I ρS u x):VR I ρB (V.ren r u) x:=by
 have main:∀ {ρ':Names} {u:V} {x:Value},VR I ρ' u x→ρ'=ρS→VR I ρB (V.ren r u) x:=by
  intro ρ' u x hv
  induction hv with
  | agg ρ' l xs hl _ ih =>
    intro e
    simp only [V.ren,Qe3]
    refine .agg _ _ _ (by simpa using hl) fun j u x h1 h2=>?_
    simp only [List.getElem?_map,Option.map_eq_some_iff] at h1
    obtain ⟨u0,h1,rfl⟩:=h1
    exact ih j u0 x h1 h2 e
  | tup ρ' l xs hl _ ih =>
    intro e
    simp only [V.ren,Qe3]
    refine .tup _ _ _ (by simpa using hl) fun j u x h1 h2=>?_
    simp only [List.getElem?_map,Option.map_eq_some_iff] at h1
    obtain ⟨u0,h1,rfl⟩:=h1
    exact ih j u0 x h1 h2 e
  | fn ρ' f l xs m ys hl hm _ _ ih1 ih2 =>
    intro e
    simp only [V.ren,Qe3]
    refine .fn _ _ _ _ _ _ (by simpa using hl) (by simpa using hm) (fun j u x h1 h2=>?_) (fun j u x h1 h2=>?_)
    ·simp only [List.getElem?_map,Option.map_eq_some_iff] at h1
     obtain ⟨u0,h1,rfl⟩:=h1
     exact ih1 j u0 x h1 h2 e
    ·simp only [List.getElem?_map,Option.map_eq_some_iff] at h1
     obtain ⟨u0,h1,rfl⟩:=h1
     exact ih2 j u0 x h1 h2 e
  | iface ρ' t x y _ ih=>intro e; simp only [V.ren]; exact .iface _ _ _ _ (ih e)
  | ptr ρ' m u off b o e hm=>intro e'; subst e'; simp only [V.ren]; exact .ptr _ _ _ _ _ _ _ (h _ _ _ hm)
  | sl ρ' m u off sz len lim b o e cap hm hlen h3 h4=>intro e'; subst e'; simp only [V.ren]; exact .sl _ _ _ _ _ _ _ _ _ _ _ (h _ _ _ hm) hlen h3 h4
  | slN ρ' m u sz lim a hm h3=>intro e'; subst e'; simp only [V.ren]; exact .slN _ _ _ _ _ _ (h _ _ _ hm) h3
  | any=>intro _; simp only [V.ren]; exact .any _ _
  | int=>intro _; simp only [V.ren]; exact .int _ _ _
  | bool=>intro _; simp only [V.ren]; exact .bool _ _
  | str=>intro _; simp only [V.ren]; exact .str _ _
  | val=>intro _; simp only [V.ren]; exact .val _ _
  | ref _ _ _ _ _ f h1 h2=>intro _; simp only [V.ren]; exact .ref _ _ _ _ _ f h1 h2
  | lst _ _ _ _ _ _ _ f h0 h1 h2 h3 h4 h5=>intro _; simp only [V.ren]; exact .lst _ _ _ _ _ _ _ f h0 h1 h2 h3 h4 h5
  | lstN _ _ _ _ _ h=>intro _; simp only [V.ren]; exact .lstN _ _ _ _ _ h
  | mp _ _ _ _ _ _ hm=>intro e'; subst e'; simp only [V.ren]; exact .mp _ _ _ _ _ _ (h _ _ _ hm)
 exact main hv rfl
end Go.Am
namespace Go.Am
open Go
variable {P:Program} {G:Nat→Option V} {I:Imm} {w:World}
theorem ObR.up {ρS ρB:Names} {r:Nat→Nat} (h:∀ n v l,ρS n v=some l→ρB (r n) v=some l) {i:Nat} {ob:Ob} (ho:ObR I ρS w i ob):ObR I ρB w (r i) (ob.ren r):=by
 cases ob with
 | arr v T cs =>
   simp only [Ob.ren,Qe3]
   rcases ho with ⟨h1,h2⟩ | ⟨b,o,e,c,lo,hi,h1,h2,h3,h4,h5,h6⟩
   ·exact .inl ⟨h _ _ _ h1,by simp [h2]⟩
   ·refine .inr ⟨b,o,e,c,lo,hi,h _ _ _ h1,h2,by simpa using h3,h4,h5,fun j u hu=>?_⟩
    simp only [List.getElem?_map,Option.map_eq_some_iff] at hu
    obtain ⟨u0,hu,rfl⟩:=hu
    obtain ⟨x,g1,g2,g3⟩:=h6 j u0 hu
    exact ⟨x,g1,g2.up h,g3⟩
 | map v es =>
   obtain ⟨b,o,e,c,h1,h2,h3,h4,h5⟩:=ho
   refine ⟨b,o,e,c,h _ _ _ h1,h2,by simpa using h3,h4,fun j p x hp hx=>?_⟩
   simp only [List.getElem?_map,Option.map_eq_some_iff] at hp
   obtain ⟨p0,hp,rfl⟩:=hp
   exact ⟨(h5 j p0 x hp hx).1,(h5 j p0 x hp hx).2.up h⟩
 | it v nm mv cnt s =>
   obtain ⟨b,e,m,o',e',h1,h2,h3⟩:=ho
   exact ⟨b,e,m,o',e',h _ _ _ h1,h _ _ _ h2,h3⟩
def rOf (rl:List Nat) (L i:Nat):Nat:=if i<rl.length then rl.getD i 0 else i - rl.length+L
def QrS (r:Nat→Nat):Nat→List (Option Ob)→List (Option Ob)→List (Option Ob)
 | _,[],oB=>oB
 | i,x::l,oB=>QrS r (i+1) l (oB.set (r i) (x.map (Ob.ren r)))
def merged (r:Nat→Nat) (k:Nat) (oB oS:List (Option Ob)):List (Option Ob):=QrS r 0 (oS.take k) oB++(oS.drop k).map (Option.map (Ob.ren r))
end Go.Am
namespace Go.Am
open Go
variable {P:Program} {G:Nat→Option V} {base:Nat} {fr:Fr} {σ:H} {K:V→Prop} {KV:V→H→Prop}
def Qet (G:Nat→Option V) (fr:Fr):List (Nat × Nat × Arg)→Bool
 | []=>true
 | p::l=>Qdn (arg G fr p.2.2)&&Qet G fr l
theorem QeZ:∀ l:List (Nat × Nat × Arg),(Qet G fr l=true)=(∀ q∈l,Qdn (arg G fr q.2.2)=true)
 | []=>by simp [Qet]
 | p::l=>by simp [Qet,QeZ l]
@[go_sem ↓] theorem QBG {z ps}:evR G fr σ K (.build z ps)=Xj (Qet G fr ps=true) (Qf9 G fr ps z fun cs=>K (.agg cs)):=by rw [QeZ]; rfl
@[go_sem] theorem QBy:Qet G fr []=true:=rfl
@[go_sem] theorem QAi {p l}:Qet G fr (p::l)=(Qdn (arg G fr p.2.2)&&Qet G fr l):=rfl
@[go_sem ↓] theorem fillV_nil {cs KL}:Qf9 G fr [] cs KL=KL cs:=rfl
@[go_sem ↓] theorem QBE {off sz x r cs KL}:Qf9 G fr ((off,sz,x)::r) cs KL=Xj ((arg G fr x).cells.length=sz∧off+sz≤cs.length) (Qf9 G fr r (cs.take off++(arg G fr x).cells++cs.drop (off+sz)) KL):=rfl
@[go_sem ↓] theorem QAX {ag T sz zero len ps}:evW base G fr σ KV (.bsl true ag T sz zero len ps)=Xj (Qet G fr ps=true) (Qf9 G fr ps (List.replicate len zero).flatten fun cs=>Xj (ones cs) (KV (.sl σ.o.length σ.t 0 sz len none) (σ.push (.arr σ.t T cs)))):=by rw [QeZ]; rfl
@[go_sem ↓] theorem QAY {ag T sz zero len ps}:evW base G fr σ KV (.bsl false ag T sz zero len ps)=Xj (Qet G fr ps=true) (Qf9 G fr ps (List.replicate len zero).flatten fun cs=>Xj (ones cs∧Qb cs=true) (KV (.lst sz (if ag=true then Qbw sz len cs else cs) true) σ)):=by rw [QeZ]; rfl
@[go_sem ↓] theorem evW_app {T sz bytes str s x}:evW base G fr σ KV (.app T sz bytes str s x)=QoS base G fr σ KV T sz bytes str s x:=rfl
def QyX (σ:H) (T sz bytes:Nat) (zero:List V) (l c:V) (K:V→H→Prop):Prop:=match l,c with
    | .int _ l,.int _ c=>Xj (0≤l∧l≤c∧c * bytes≤140737488355328∧c≤9223372036854775807∧ones zero) (K (.sl σ.o.length σ.t 0 sz l.toNat none) (σ.push (.arr σ.t T (List.replicate l.toNat zero).flatten)))
    | _,_=>False
@[go_sem ↓] theorem evW_mksl {T sz bytes zero l c}:evW base G fr σ KV (.mksl T sz bytes zero l c)=QyX σ T sz bytes zero (arg G fr l) (arg G fr c) KV:=rfl
def QsN (base:Nat) (σ:H) (ag:Bool) (ks:List Kd) (m k x:V) (K:V→H→Prop):Prop:=match m with
    | .mp nm v=>match σ.o[nm]? with
      | some (some (.map v' es))=>Xj (v=v'∧base≤nm∧Qfd ag ks k es∧Qd k=true) (K (.tup []) ⟨σ.t,σ.o.set nm (some (.map v (Qmw ks k x es)))⟩)
      | _=>False
    | _=>False
@[go_sem ↓] theorem evW_mapup {ag ks m k x}:evW base G fr σ KV (.mapup ag ks m k x)=QsN base σ ag ks (arg G fr m) (arg G fr k) (arg G fr x) KV:=rfl
def QyY (base:Nat) (σ:H) (ag:Bool) (ks:List Kd) (zero m k:V) (K:V→H→Prop):Prop:=match m with
    | .mp nm v=>match σ.o[nm]? with
      | some (some (.map v' es))=>Xj (v=v'∧base≤nm∧Qfd ag ks k es∧Qd k=true)
       (K (.tup [(Qtr ks k es).getD zero,.int .i64 ((QeU ks k es).getD es.length:Nat)]) ⟨σ.t,σ.o.set nm (some (.map v (QAD ks k zero es)))⟩)
      | _=>False
    | _=>False
@[go_sem ↓] theorem evW_ment {ag ks zero m k}:evW base G fr σ KV (.ment ag ks zero m k)=QyY base σ ag ks zero (arg G fr m) (arg G fr k) KV:=rfl
def evMst (base:Nat) (σ:H) (m s x:V) (K:V→H→Prop):Prop:=match m,s with
    | .mp nm v,.int _ i=>match σ.o[nm]? with
      | some (some (.map v' es))=>Xj (v=v'∧base≤nm∧0≤i∧i.toNat<es.length) (K (.tup []) ⟨σ.t,σ.o.set nm (some (.map v (es.modify i.toNat fun p=>(p.1,x))))⟩)
      | _=>False
    | _,_=>False
@[go_sem ↓] theorem evW_mst {m s x}:evW base G fr σ KV (.mst m s x)=evMst base σ (arg G fr m) (arg G fr s) (arg G fr x) KV:=rfl
def QyZ (base:Nat) (σ:H) (x:V) (K:V→H→Prop):Prop:=match x with
    | .sl k v off sz len lim=>match σ.o[k]? with
      | some (some (.arr v' _ cs))=>Xj (v=v'∧base≤k∧0<cs.length) (K (.sl k v off sz len lim) σ)
      | _=>False
    | _=>False
@[go_sem ↓] theorem evW_mark {x}:evW base G fr σ KV (.mark x)=QyZ base σ (arg G fr x) KV:=rfl
attribute [go_sem] QnH
attribute [go_sem ↓] QyZ QoS Qfl QyX QsN QyY evMst
def evSlc (sz:Nat) (x:V) (G:Nat→Option V) (fr:Fr) (lo hi:Option Arg) (K:V→Prop):Prop:=match x with
    | .lst s l tight=>QI G fr l.length lo hi fun a b=>Xj (s=sz∨l=[]) (K (.lst s ((l.drop a).take (b - a)) (tight&&decide (b=l.length))))
    | .sl n v off s len lim=>QI G fr len lo hi fun a b=>Xj (s=sz∧(a=0∨a<b)) (K (.sl n v (off+a * sz) s (b - a) (lim.map (· - a))))
    | _=>False
@[go_sem ↓] theorem evR_slc {sz x lo hi}:evR G fr σ K (.slc sz x lo hi none)=evSlc sz (arg G fr x) G fr lo hi K:=rfl
def QyT (sz:Nat) (mx x:V) (G:Nat→Option V) (fr:Fr) (lo hi:Option Arg) (K:V→Prop):Prop:=match mx,x with
    | .int _ m,.lst s l _=>QI G fr m.toNat lo hi fun a b=>Xj (0≤m∧m.toNat≤l.length∧(s=sz∨l=[])) (K (.lst s ((l.drop a).take (b - a)) (decide (b=m.toNat))))
    | .int _ m,.sl n v off s len _=>QI G fr m.toNat lo hi fun a b=>Xj (s=sz∧(a=0∨a<b)∧0≤m∧m.toNat≤len) (K (.sl n v (off+a * sz) s (b - a) (some (m.toNat - a))))
    | _,_=>False
@[go_sem ↓] theorem evR_slc3 {sz x lo hi mx}:evR G fr σ K (.slc sz x lo hi (some mx))=QyT sz (arg G fr mx) (arg G fr x) G fr lo hi K:=rfl
def evSsl (x:V) (G:Nat→Option V) (fr:Fr) (lo hi:Option Arg) (K:V→Prop):Prop:=match x with
    | .str s=>QI G fr s.length lo hi fun l h=>K (.str ((s.drop l).take (h - l)))
    | _=>False
@[go_sem ↓] theorem evR_ssl {x lo hi}:evR G fr σ K (.ssl x lo hi)=evSsl (arg G fr x) G fr lo hi K:=rfl
def QsL (n sz:Nat) (x:V) (G:Nat→Option V) (fr:Fr) (σ:H) (lo hi:Option Arg) (K:V→Prop):Prop:=match x with
    | .ptr nm v off=>match σ.o[nm]? with
      | some (some (.arr v' _ cs))=>QI G fr n lo hi fun a b=>Xj (v=v'∧off+n * sz≤cs.length∧(a=0∨a<n)) (K (.sl nm v (off+a * sz) sz (b - a) (some (n - a))))
      | _=>False
    | _=>False
@[go_sem ↓] theorem evR_slarr {n sz x lo hi}:evR G fr σ K (.slarr n sz x lo hi)=QsL n sz (arg G fr x) G fr σ lo hi K:=rfl
@[go_sem ↓] theorem QA2 {len} {KB:Nat→Nat→Prop}:QI G fr len none none KB=KB 0 len:=rfl
def Qy4 (len:Nat) (h:V) (K:Nat→Nat→Prop):Prop:=match h with
 | .int _ h=>Xj (0≤h∧h.toNat≤len) (K 0 h.toNat)
 | _=>False
def Qy3 (len:Nat) (l:V) (K:Nat→Nat→Prop):Prop:=match l with
 | .int _ l=>Xj (0≤l∧l.toNat≤len) (K l.toNat len)
 | _=>False
def Qy2 (len:Nat) (l h:V) (K:Nat→Nat→Prop):Prop:=match l,h with
 | .int _ l,.int _ h=>Xj (0≤l∧l≤h∧h.toNat≤len) (K l.toNat h.toNat)
 | _,_=>False
@[go_sem ↓] theorem QA1 {len h} {KB:Nat→Nat→Prop}:QI G fr len none (some h) KB=Qy4 len (arg G fr h) KB:=by
  simp only [QI,Option.map_none,Option.map_some]
  cases arg G fr h <;> rfl
@[go_sem ↓] theorem QA0 {len l} {KB:Nat→Nat→Prop}:QI G fr len (some l) none KB=Qy3 len (arg G fr l) KB:=by
  simp only [QI,Option.map_none,Option.map_some]
  cases arg G fr l <;> rfl
@[go_sem ↓] theorem QAZ {len l h} {KB:Nat→Nat→Prop}:QI G fr len (some l) (some h) KB=Qy2 len (arg G fr l) (arg G fr h) KB:=by
  simp only [QI,Option.map_some]
  cases arg G fr l <;> cases arg G fr h <;> rfl
attribute [go_sem ↓] evSlc QyT evSsl QsL Qy4 Qy3 Qy2
attribute [go_sem] List.replicate_succ List.replicate_zero List.flatten_cons List.flatten_nil Qbw
attribute [go_sem] Bool.true_and Bool.and_true Bool.and_self Bool.false_and Bool.and_false Option.map_none Option.map_some
attribute [go_sem] beq_iff_eq bne_iff_ne beq_eq_false_iff_ne bne_eq_false_iff_eq decide_eq_true_eq decide_eq_false_iff_not Bool.not_eq_true' Bool.not_eq_false'
attribute [go_sem] implies_true Bool.and_eq_true Bool.or_eq_true Bool.not_eq_true Bool.not_eq_false ne_eq not_true_eq_false
end Go.Am
namespace Go.Am
open Go
variable {P:Program} {G:Nat→Option V}
inductive KI where
 | at (t:AT) (dead:List Nat)
 | ac (c:AC)
 | blk (id:Nat)
 | lp (k:Nat) (c:AC)
def rnd (P:Program) (G:Nat→Option V) (n base:Nat) (x:AC) (Q:AE→Fr→H→Prop):Nat→Fr→H→Prop
 | 0,_,_=>False
 | k+1,fr,σ=>W P G n base x fr σ (ZB (fun fr σ=>rnd P G n base x Q k fr σ) Q)
def sem (P:Program) (G:Nat→Option V) (n base:Nat) (Q:AE→Fr→H→Prop):List KI→AE→Fr→H→Prop
 | [],e,fr,σ=>Q e fr σ
 | .ac c::s,.nrm,fr,σ=>W P G n base c fr σ fun e fr σ=>sem P G n base Q s e fr σ
 | .at t dead::s,.nrm,fr,σ=>WT P G n base t fr σ fun fr σ=>sem P G n base Q s .nrm (fdel fr dead) σ
 | .lp k c::s,.nrm,fr,σ=>rnd P G n base c (fun e fr σ=>sem P G n base Q s e fr σ) k fr σ
 | .blk id::s,.ex i,fr,σ=>if i=id then sem P G n base Q s .nrm fr σ else sem P G n base Q s (.ex i) fr σ
 | _::s,e,fr,σ=>sem P G n base Q s e fr σ
def run (P:Program) (G:Nat→Option V) (n base:Nat) (Q:AE→Fr→H→Prop):Nat→List KI→AE→Fr→H→Prop
 | 0,s,e,fr,σ=>sem P G n base Q s e fr σ
 | _+1,[],e,fr,σ=>Q e fr σ
 | f+1,.blk id::s,.ex i,fr,σ=>if i=id then run P G n base Q f s .nrm fr σ else run P G n base Q f s (.ex i) fr σ
 | f+1,.ac c::s,.nrm,fr,σ=>match c with
   | .skip=>run P G n base Q f s .nrm fr σ
   | .reg t dead=>run P G n base Q f (.at t dead::s) .nrm fr σ
   | .seq a b=>run P G n base Q f (.ac a::.ac b::s) .nrm fr σ
   | .cond c a b=>condK (arg G fr c) (run P G n base Q f (.ac a::s) .nrm fr σ) (run P G n base Q f (.ac b::s) .nrm fr σ)
   | .block id a=>run P G n base Q f (.ac a::.blk id::s) .nrm fr σ
   | .loop a=>sem P G n base Q (.ac (.loop a)::s) .nrm fr σ
   | .exit id=>run P G n base Q f s (.ex id) fr σ
   | .ret=>run P G n base Q f s .ret fr σ
   | .bad=>False
 | f+1,.lp k c::s,.nrm,fr,σ=>match k with
   | 0=>False
   | k+1=>run P G n base Q f (.ac c::.lp k c::s) .nrm fr σ
 | f+1,.at t dead::s,.nrm,fr,σ=>match t with
   | .done=>run P G n base Q f s .nrm (fdel fr dead) σ
   | .rd d g op t=>QaR g fr (fun fr=>evR G fr σ (fun v=>run P G n base Q f (.at t dead::s) .nrm (fput fr d v) σ) op) (fun fr=>run P G n base Q f (.at t dead::s) .nrm (fput fr d (.tup [])) σ)
   | .wr k d g op t=>QaR g fr (fun fr=>evW (if k&&!op.isApp then σ.o.length else base) G fr σ (fun v σ'=>run P G n base Q f (.at t dead::s) .nrm (fput fr d v) σ') op) (fun fr=>run P G n base Q f (.at t dead::s) .nrm (fput fr d (.tup [])) σ)
   | .cl k d g h args t=>QaR g fr (fun fr=>CV P G (if k then σ.o.length else base) (arg G fr h) (args.map (arg G fr)) σ fun v σ'=>sem P G n base Q (.at t dead::s) .nrm (fput fr d v) σ') (fun fr=>run P G n base Q f (.at t dead::s) .nrm (fput fr d (.tup [])) σ)
   | .bad _ d g t=>QaR g fr (fun _=>False) (fun fr=>run P G n base Q f (.at t dead::s) .nrm (fput fr d (.tup [])) σ)
   | .alt a b=>run P G n base Q f (.at a dead::s) .nrm fr σ∧run P G n base Q f (.at b dead::s) .nrm fr σ
 | f+1,_::s,e,fr,σ=>run P G n base Q f s e fr σ
theorem Qc {n base:Nat} {Q:AE→Fr→H→Prop}:∀ (f:Nat) {s:List KI} {e:AE} {fr:Fr} {σ:H},run P G n base Q f s e fr σ→sem P G n base Q s e fr σ:=by
 intro f
 induction f with
 | zero=>intro s e fr σ h; exact h
 | succ f ih =>
   intro s e fr σ h
   cases s with
   | nil=>exact h
   | cons k s =>
     cases e with
     | ex i =>
       cases k with
       | blk id =>
         simp only [run] at h
         simp only [sem]
         split at h
         ·rename_i hi; rw [if_pos hi]; exact ih h
         ·rename_i hi; rw [if_neg hi]; exact ih h
       | ac c=>simp only [run] at h; simp only [sem]; exact ih h
       | lp k c=>simp only [run] at h; simp only [sem]; exact ih h
       | «at» t dead=>simp only [run] at h; simp only [sem]; exact ih h
     | ret=>cases k <;> (simp only [run] at h; simp only [sem]; exact ih h)
     | nrm =>
       cases k with
       | blk id=>simp only [run] at h; simp only [sem]; exact ih h
       | lp k c =>
         cases k with
         | zero=>exact h.elim
         | succ k =>
           refine W.conseq (ih (s:=.ac c::.lp k c::s) h) fun e fr σ he=>?_
           cases e <;> exact he
       | ac c =>
         cases c with
         | skip=>exact W_skip (ih h)
         | reg t dead=>exact W_reg (ih (s:=.at t dead::s) h)
         | seq a b =>
           refine W_seq (W.conseq (ih (s:=.ac a::.ac b::s) h) fun e fr σ he=>?_)
           cases e <;> exact he
         | cond c a b=>exact W_cond (condK.mono h (ih (s:=.ac a::s)) (ih (s:=.ac b::s)))
         | block id a =>
           refine QBr (W.conseq (ih (s:=.ac a::.blk id::s) h) fun e fr σ he=>?_)
           cases e <;> exact he
         | loop a=>exact h
         | exit id=>exact W_exit (ih h)
         | ret=>exact W_ret (ih h)
         | bad=>exact h.elim
       | «at» t dead =>
         cases t with
         | done=>exact QBs (ih h)
         | rd d g op t=>exact WT_rd (A:=fun fr v=>run P G n base Q f (.at t dead::s) .nrm (fput fr d v) σ) (B:=fun fr=>run P G n base Q f (.at t dead::s) .nrm (fput fr d (.tup [])) σ) h (fun fr v hv=>ih (s:=.at t dead::s) (e:=.nrm) hv) fun fr hv=>ih (s:=.at t dead::s) (e:=.nrm) hv
         | wr k d g op t=>exact WT_wr (A:=fun fr v σ=>run P G n base Q f (.at t dead::s) .nrm (fput fr d v) σ) (B:=fun fr=>run P G n base Q f (.at t dead::s) .nrm (fput fr d (.tup [])) σ) h (fun fr v σ' hv=>ih (s:=.at t dead::s) (e:=.nrm) hv) fun fr hv=>ih (s:=.at t dead::s) (e:=.nrm) hv
         | cl k d g hh args t=>exact WT_cl (A:=fun fr v σ=>sem P G n base Q (.at t dead::s) .nrm (fput fr d v) σ) (B:=fun fr=>run P G n base Q f (.at t dead::s) .nrm (fput fr d (.tup [])) σ) h (fun fr v σ' hv=>hv) fun fr hv=>ih (s:=.at t dead::s) (e:=.nrm) hv
         | bad k d g t=>exact WT_bad (B:=fun fr=>run P G n base Q f (.at t dead::s) .nrm (fput fr d (.tup [])) σ) h fun fr hv=>ih (s:=.at t dead::s) (e:=.nrm) hv
         | alt a b=>exact WT_alt (ih (s:=.at a dead::s) h.1) (ih (s:=.at b dead::s) h.2)
variable {c:AC}
theorem Qx {n base:Nat} {Q:AE→Fr→H→Prop} (f:Nat) {fr:Fr} {σ:H} (h:run P G n base Q f [.ac c] .nrm fr σ):W P G n base c fr σ Q:=Qc f h
theorem Xk {n base:Nat} {Q:AE→Fr→H→Prop} {s:List KI} {fr fr':Fr} {σ σ':H} (h:Shift G n base fr σ fr' σ') (k:sem P G n base Q (.ac c::s) .nrm fr' σ'):sem P G n base Q (.ac c::s) .nrm fr σ:=Qtj h k
def kR (P:Program) (G:Nat→Option V) (n base:Nat) (Q:AE→Fr→H→Prop) (f:Nat) (d:Option Nat) (t:AT) (dead:List Nat) (s:List KI) (fr:Fr) (σ:H) (v:V):Prop:=run P G n base Q f (.at t dead::s) .nrm (fput fr d v) σ
def kW (P:Program) (G:Nat→Option V) (n base:Nat) (Q:AE→Fr→H→Prop) (f:Nat) (d:Option Nat) (t:AT) (dead:List Nat) (s:List KI) (fr:Fr) (v:V) (σ:H):Prop:=run P G n base Q f (.at t dead::s) .nrm (fput fr d v) σ
def kC (P:Program) (G:Nat→Option V) (n base:Nat) (Q:AE→Fr→H→Prop) (d:Option Nat) (t:AT) (dead:List Nat) (s:List KI) (fr:Fr) (v:V) (σ:H):Prop:=sem P G n base Q (.at t dead::s) .nrm (fput fr d v) σ
section
variable {n base f:Nat} {Q:AE→Fr→H→Prop} {s:List KI} {fr:Fr} {σ:H} {d:Option Nat} {t:AT} {dead:List Nat}
@[go_sem] theorem kR_eq {v}:kR P G n base Q f d t dead s fr σ v=run P G n base Q f (.at t dead::s) .nrm (fput fr d v) σ:=rfl
@[go_sem] theorem kW_eq {v}:kW P G n base Q f d t dead s fr v σ=run P G n base Q f (.at t dead::s) .nrm (fput fr d v) σ:=rfl
@[go_sem] theorem run_nil {e}:run P G n base Q (f+1) [] e fr σ=Q e fr σ:=rfl
@[go_sem] theorem run_blk {id}:run P G n base Q (f+1) (.blk id::s) .nrm fr σ=run P G n base Q f s .nrm fr σ:=rfl
@[go_sem] theorem QBA {id i}:run P G n base Q (f+1) (.blk id::s) (.ex i) fr σ=if i=id then run P G n base Q f s .nrm fr σ else run P G n base Q f s (.ex i) fr σ:=rfl
@[go_sem] theorem QAm {id}:run P G n base Q (f+1) (.blk id::s) .ret fr σ=run P G n base Q f s .ret fr σ:=rfl
@[go_sem] theorem QBD {c}:run P G n base Q (f+1) (.ac c::s) .ret fr σ=run P G n base Q f s .ret fr σ:=rfl
@[go_sem] theorem QBC {c}:run P G n base Q (f+1) (.at c dead::s) .ret fr σ=run P G n base Q f s .ret fr σ:=rfl
@[go_sem] theorem run_ac_ex {c i}:run P G n base Q (f+1) (.ac c::s) (.ex i) fr σ=run P G n base Q f s (.ex i) fr σ:=rfl
@[go_sem] theorem run_at_ex {c i}:run P G n base Q (f+1) (.at c dead::s) (.ex i) fr σ=run P G n base Q f s (.ex i) fr σ:=rfl
@[go_sem] theorem run_lp {k c}:run P G n base Q (f+1) (.lp (k+1) c::s) .nrm fr σ=run P G n base Q f (.ac c::.lp k c::s) .nrm fr σ:=rfl
@[go_sem] theorem QBz {k c}:run P G n base Q (f+1) (.lp k c::s) .ret fr σ=run P G n base Q f s .ret fr σ:=rfl
@[go_sem] theorem run_lp_ex {k c i}:run P G n base Q (f+1) (.lp k c::s) (.ex i) fr σ=run P G n base Q f s (.ex i) fr σ:=rfl
@[go_sem] theorem run_skip:run P G n base Q (f+1) (.ac .skip::s) .nrm fr σ=run P G n base Q f s .nrm fr σ:=rfl
@[go_sem] theorem run_reg:run P G n base Q (f+1) (.ac (.reg t dead)::s) .nrm fr σ=run P G n base Q f (.at t dead::s) .nrm fr σ:=rfl
@[go_sem] theorem run_seq {a b}:run P G n base Q (f+1) (.ac (.seq a b)::s) .nrm fr σ=run P G n base Q f (.ac a::.ac b::s) .nrm fr σ:=rfl
@[go_sem] theorem run_cond {c a b}:run P G n base Q (f+1) (.ac (.cond c a b)::s) .nrm fr σ=QA9 (arg G fr c) (run P G n base Q f (.ac a::s) .nrm fr σ) (run P G n base Q f (.ac b::s) .nrm fr σ):=QBa
@[go_sem] theorem run_block {id a}:run P G n base Q (f+1) (.ac (.block id a)::s) .nrm fr σ=run P G n base Q f (.ac a::.blk id::s) .nrm fr σ:=rfl
@[go_sem] theorem run_loop {a}:run P G n base Q (f+1) (.ac (.loop a)::s) .nrm fr σ=sem P G n base Q (.ac (.loop a)::s) .nrm fr σ:=rfl
@[go_sem] theorem run_exit {id}:run P G n base Q (f+1) (.ac (.exit id)::s) .nrm fr σ=run P G n base Q f s (.ex id) fr σ:=rfl
@[go_sem] theorem run_ret:run P G n base Q (f+1) (.ac .ret::s) .nrm fr σ=run P G n base Q f s .ret fr σ:=rfl
@[go_sem] theorem run_bad:run P G n base Q (f+1) (.ac .bad::s) .nrm fr σ=False:=rfl
@[go_sem] theorem run_done:run P G n base Q (f+1) (.at .done dead::s) .nrm fr σ=run P G n base Q f s .nrm (fdel fr dead) σ:=rfl
@[go_sem] theorem run_rd {op}:run P G n base Q (f+1) (.at (.rd d none op t) dead::s) .nrm fr σ=evR G fr σ (kR P G n base Q f d t dead s fr σ) op:=rfl
@[go_sem] theorem run_rd_t {op k}:run P G n base Q (f+1) (.at (.rd d (some (k,true)) op t) dead::s) .nrm fr σ=QfJ (Qi fr k) (run P G n base Q (f+1) (.at (.rd d none op t) dead::s) .nrm (Qey fr k (.bool true)) σ) (run P G n base Q f (.at t dead::s) .nrm (fput (Qey fr k (.bool false)) d (.tup [])) σ) (run P G n base Q f (.at t dead::s) .nrm (fput fr d (.tup [])) σ):=QjK (A:=fun fr=>evR G fr σ (fun v=>run P G n base Q f (.at t dead::s) .nrm (fput fr d v) σ) op) (B:=fun fr=>run P G n base Q f (.at t dead::s) .nrm (fput fr d (.tup [])) σ)
@[go_sem] theorem run_rd_f {op k}:run P G n base Q (f+1) (.at (.rd d (some (k,false)) op t) dead::s) .nrm fr σ=QfJ (Qi fr k) (run P G n base Q f (.at t dead::s) .nrm (fput (Qey fr k (.bool true)) d (.tup [])) σ) (run P G n base Q (f+1) (.at (.rd d none op t) dead::s) .nrm (Qey fr k (.bool false)) σ) (run P G n base Q f (.at t dead::s) .nrm (fput fr d (.tup [])) σ):=QjL (A:=fun fr=>evR G fr σ (fun v=>run P G n base Q f (.at t dead::s) .nrm (fput fr d v) σ) op) (B:=fun fr=>run P G n base Q f (.at t dead::s) .nrm (fput fr d (.tup [])) σ)
@[go_sem] theorem run_wr {op b}:run P G n base Q (f+1) (.at (.wr b d none op t) dead::s) .nrm fr σ=evW (if b&&!op.isApp then σ.o.length else base) G fr σ (kW P G n base Q f d t dead s fr) op:=rfl
@[go_sem] theorem run_wr_t {op k b}:run P G n base Q (f+1) (.at (.wr b d (some (k,true)) op t) dead::s) .nrm fr σ=QfJ (Qi fr k) (run P G n base Q (f+1) (.at (.wr b d none op t) dead::s) .nrm (Qey fr k (.bool true)) σ) (run P G n base Q f (.at t dead::s) .nrm (fput (Qey fr k (.bool false)) d (.tup [])) σ) (run P G n base Q f (.at t dead::s) .nrm (fput fr d (.tup [])) σ):=QjK (A:=fun fr=>evW (if b&&!op.isApp then σ.o.length else base) G fr σ (fun v σ'=>run P G n base Q f (.at t dead::s) .nrm (fput fr d v) σ') op) (B:=fun fr=>run P G n base Q f (.at t dead::s) .nrm (fput fr d (.tup [])) σ)
@[go_sem] theorem run_wr_f {op k b}:run P G n base Q (f+1) (.at (.wr b d (some (k,false)) op t) dead::s) .nrm fr σ=QfJ (Qi fr k) (run P G n base Q f (.at t dead::s) .nrm (fput (Qey fr k (.bool true)) d (.tup [])) σ) (run P G n base Q (f+1) (.at (.wr b d none op t) dead::s) .nrm (Qey fr k (.bool false)) σ) (run P G n base Q f (.at t dead::s) .nrm (fput fr d (.tup [])) σ):=QjL (A:=fun fr=>evW (if b&&!op.isApp then σ.o.length else base) G fr σ (fun v σ'=>run P G n base Q f (.at t dead::s) .nrm (fput fr d v) σ') op) (B:=fun fr=>run P G n base Q f (.at t dead::s) .nrm (fput fr d (.tup [])) σ)
@[go_sem] theorem run_cl {h args b}:run P G n base Q (f+1) (.at (.cl b d none h args t) dead::s) .nrm fr σ=CV P G (if b=true then σ.o.length else base) (arg G fr h) (args.map (arg G fr)) σ (kC P G n base Q d t dead s fr):=rfl
@[go_sem] theorem run_cl_t {h args k b}:run P G n base Q (f+1) (.at (.cl b d (some (k,true)) h args t) dead::s) .nrm fr σ=QfJ (Qi fr k) (run P G n base Q (f+1) (.at (.cl b d none h args t) dead::s) .nrm (Qey fr k (.bool true)) σ) (run P G n base Q f (.at t dead::s) .nrm (fput (Qey fr k (.bool false)) d (.tup [])) σ) (run P G n base Q f (.at t dead::s) .nrm (fput fr d (.tup [])) σ):=QjK (A:=fun fr=>CV P G (if b=true then σ.o.length else base) (arg G fr h) (args.map (arg G fr)) σ fun v σ'=>sem P G n base Q (.at t dead::s) .nrm (fput fr d v) σ') (B:=fun fr=>run P G n base Q f (.at t dead::s) .nrm (fput fr d (.tup [])) σ)
@[go_sem] theorem run_cl_f {h args k b}:run P G n base Q (f+1) (.at (.cl b d (some (k,false)) h args t) dead::s) .nrm fr σ=QfJ (Qi fr k) (run P G n base Q f (.at t dead::s) .nrm (fput (Qey fr k (.bool true)) d (.tup [])) σ) (run P G n base Q (f+1) (.at (.cl b d none h args t) dead::s) .nrm (Qey fr k (.bool false)) σ) (run P G n base Q f (.at t dead::s) .nrm (fput fr d (.tup [])) σ):=QjL (A:=fun fr=>CV P G (if b=true then σ.o.length else base) (arg G fr h) (args.map (arg G fr)) σ fun v σ'=>sem P G n base Q (.at t dead::s) .nrm (fput fr d v) σ') (B:=fun fr=>run P G n base Q f (.at t dead::s) .nrm (fput fr d (.tup [])) σ)
@[go_sem] theorem QBB {b}:run P G n base Q (f+1) (.at (.bad b d none t) dead::s) .nrm fr σ=False:=rfl
@[go_sem] theorem run_bad_t {k b}:run P G n base Q (f+1) (.at (.bad b d (some (k,true)) t) dead::s) .nrm fr σ=QfJ (Qi fr k) False (run P G n base Q f (.at t dead::s) .nrm (fput (Qey fr k (.bool false)) d (.tup [])) σ) (run P G n base Q f (.at t dead::s) .nrm (fput fr d (.tup [])) σ):=QjK (A:=fun _=>False) (B:=fun fr=>run P G n base Q f (.at t dead::s) .nrm (fput fr d (.tup [])) σ)
@[go_sem] theorem run_bad_f {k b}:run P G n base Q (f+1) (.at (.bad b d (some (k,false)) t) dead::s) .nrm fr σ=QfJ (Qi fr k) (run P G n base Q f (.at t dead::s) .nrm (fput (Qey fr k (.bool true)) d (.tup [])) σ) False (run P G n base Q f (.at t dead::s) .nrm (fput fr d (.tup [])) σ):=QjL (A:=fun _=>False) (B:=fun fr=>run P G n base Q f (.at t dead::s) .nrm (fput fr d (.tup [])) σ)
@[go_sem] theorem run_alt {a b}:run P G n base Q (f+1) (.at (.alt a b) dead::s) .nrm fr σ=(run P G n base Q f (.at a dead::s) .nrm fr σ∧run P G n base Q f (.at b dead::s) .nrm fr σ):=rfl
end
attribute [go_sem ↓] QoU QmL
variable {base':Nat} {A:AF} {T:Nat→Option AF}
theorem call (hT:Qn P T) {f:Nat} (hf:T f=some A) {n base:Nat} {Q:AE→Fr→H→Prop} {t:AT} {d:Option Nat} {dead:List Nat} {s:List KI} {fr:Fr} {args:List V} {σ:H} {R:V→H→Prop}
 (h:C P G base' f args σ R) (fuel:Nat) (k:∀ v σ',R v σ'→run P G n base Q fuel (.at t dead::s) .nrm (fput fr d v) σ'):CV P G base' (.fn (.func f) [] []) args σ (kC P G n base Q d t dead s fr) :=
 Qzh hT hf (by rw [List.nil_append,List.append_nil]; exact h.conseq fun v σ' hq=>Qc fuel (k v σ' hq))
theorem Qcc (hT:Qn P T) {f:Nat} (hf:T f=some A) {n base:Nat} {Q:AE→Fr→H→Prop} {t:AT} {d:Option Nat} {dead:List Nat} {s:List KI} {fr:Fr} {args:List V} {σ:H} {R:V→Prop}
 (h:Pure P G f args R) (hn:Qb args=true) (fuel:Nat) (k:∀ v,R v→run P G n base Q fuel (.at t dead::s) .nrm (fput fr d v) σ):CV P G base' (.fn (.func f) [] []) args σ (kC P G n base Q d t dead s fr) :=
 call hT hf (C_pure (R:=fun v σ'=>R v∧σ'=σ) h hn fun v hv=>⟨hv,rfl⟩) fuel fun v σ' hq=>by obtain ⟨hq,rfl⟩:=hq; exact k v hq
def Keep (k:Nat) (Q:V→H→Prop) (v:V) (σ:H):Prop:=k≤σ.o.length∧Q v ⟨σ.t,σ.o.take k⟩
theorem QeC:∀ (k:Nat) (o:List (Option Ob)),XJ (o.take k) o
 | 0,o=>by simp [XJ]
 | k+1,[]=>by simp [XJ]
 | k+1,none::o=>by simpa [XJ] using QeC k o
 | k+1,some x::o=>by simpa [XJ] using QeC k o
theorem C_drop {base f:Nat} {args:List V} {σ:H} {Q Q2:V→H→Prop} (h:C P G base f args σ Q) (k:∀ v σ',Q v σ'→∃ o' t',XJ o' σ'.o∧σ'.t≤t'∧base≤o'.length∧Q2 v ⟨t',o'⟩):C P G base f args σ Q2:=by
 intro I ρ w xs R hb hc
 refine (h I ρ w xs R hb hc).mono fun e w' ⟨v,x,I',ρ',σ',h1,h2,h3,h4,h5,h6⟩=>?_
 obtain ⟨o',t',g1,g2,g3,g4⟩:=k v σ' h6
 obtain ⟨k1,k2⟩:=h3.drop (base:=base) g2 (QeX g1)
 exact ⟨v,x,I',ρ',⟨t',o'⟩,h1,h2,k1,h4.trans k2,g3,g4⟩
theorem Xa (k:Nat) {base f:Nat} {args:List V} {σ:H} {Q:V→H→Prop} (hb:base≤k) (h:C P G base f args σ (Keep k Q)):C P G base f args σ Q :=
 C_drop h fun v σ' hq=>⟨σ'.o.take k,σ'.t,QeC _ _,Nat.le_refl _,by have:=hq.1; simp; omega,hq.2⟩
attribute [go_sem] Keep
attribute [go_sem] H.mk.injEq
def QAO (r:Nat→Nat) (k:Nat) (oB:List (Option Ob)):Nat→List (Option Ob)→Prop
 | _,[]=>True
 | i,none::l=>QAO r k oB (i+1) l
 | i,some ob::l=>ob.under k=true∧oB[r i]?=some (some (ob.ren r))∧QAO r k oB (i+1) l
def ltAll (L:Nat):List Nat→Prop
 | []=>True
 | x::l=>x<L∧ltAll L l
def bndL (bB bS:Nat):Nat→List Nat→Prop
 | _,[]=>True
 | i,x::l=>(bS≤i→bB≤x)∧bndL bB bS (i+1) l
mutual
theorem V.ren_under {r:Nat→Nat} {k:Nat} (h:∀ i,i<k→r i=i):∀ u:V,V.under k u=true→V.ren r u=u
 | .any,_=>by rw [V.ren] <;> simp
 | .int ..,_=>by rw [V.ren] <;> simp
 | .bool ..,_=>by rw [V.ren] <;> simp
 | .str ..,_=>by rw [V.ren] <;> simp
 | .val ..,_=>by rw [V.ren] <;> simp
 | .agg l,hu=>by rw [V.ren,QaO h l (by simpa [V.under] using hu)]
 | .tup l,hu=>by rw [V.ren,QaO h l (by simpa [V.under] using hu)]
 | .ptr n v o,hu=>by rw [V.ren,h n (by simpa [V.under] using hu)]
 | .ref ..,_=>by rw [V.ren] <;> simp
 | .sl n v o s l m,hu=>by rw [V.ren,h n (by simpa [V.under] using hu)]
 | .lst ..,_=>by rw [V.ren] <;> simp
 | .mp n v,hu=>by rw [V.ren,h n (by simpa [V.under] using hu)]
 | .fn f a b,hu=>by
   simp only [V.under,Bool.and_eq_true] at hu
   rw [V.ren,QaO h a hu.1,QaO h b hu.2]
 | .iface t x,hu=>by rw [V.ren,V.ren_under h x (by simpa [V.under] using hu)]
theorem QaO {r:Nat→Nat} {k:Nat} (h:∀ i,i<k→r i=i):∀ l:List V,QcM k l=true→QlZ r l=l
 | [],_=>by rw [QlZ]
 | u::l,hu=>by
   simp only [QcM,Bool.and_eq_true] at hu
   rw [QlZ,V.ren_under h u hu.1,QaO h l hu.2]
end
theorem Ob.ren_under {r:Nat→Nat} {k:Nat} (h:∀ i,i<k→r i=i) (ob:Ob) (hu:ob.under k=true):ob.ren r=ob:=by
 cases ob with
 | arr v T cs=>simp only [Ob.under] at hu; simp [Ob.ren,QaO h cs hu]
 | map v es =>
   simp only [Ob.under,List.all_eq_true] at hu
   simp only [Ob.ren,Ob.map.injEq,true_and]
   have:∀ l:List (V × V),(∀ p∈l,p.2.under k=true)→l.map (fun p=>(p.1,V.ren r p.2))=l:=fun l hl=>by
    induction l with
    | nil=>rfl
    | cons q l ih =>
      rw [List.map_cons,ih fun p hp=>hl p (List.mem_cons_of_mem _ hp),V.ren_under h q.2 (hl q (List.mem_cons_self ..))]
   exact this es hu
 | it v nm mv c s=>simp only [Ob.under,decide_eq_true_eq] at hu; simp [Ob.ren,h nm hu]
def undO (k:Nat):List (Option Ob)→Bool
 | []=>true
 | none::l=>undO k l
 | some ob::l=>ob.under k&&undO k l
def isI64:V→Bool
 | .int .i64 _=>true
 | _=>false
@[go_sem] theorem isI64_int {n:Int}:isI64 (.int .i64 n)=true:=rfl
attribute [go_sem] undO Int.ofNat_lt Int.ofNat_le Int.toNat_natCast
attribute [go_sem] rOf QrS merged Ob.ren QlZ V.ren Ob.under QcM V.under QAO ltAll bndL
attribute [go_sem] Option.some.injEq
def HShift (G:Nat→Option V) (base:Nat) (σ σ':H):Prop :=
 ∀ I ρ w,Rel G I ρ σ w→base≤σ.o.length→∃ I' ρ',Rel G I' ρ' σ' w∧Step base I ρ σ w I' ρ' σ' w∧base≤σ'.o.length
theorem HShift.refl (base:Nat) (σ:H):HShift G base σ σ:=fun I ρ w hR hb=>⟨I,ρ,hR,Step.refl _ _ _ _ _,hb⟩
theorem HShift.trans {base:Nat} {σ σ' σ'':H} (h:HShift G base σ σ') (k:HShift G base σ' σ''):HShift G base σ σ'':=fun I ρ w hR hb=>by
 obtain ⟨I1,ρ1,h1,h2,h3⟩:=h I ρ w hR hb
 obtain ⟨I2,ρ2,k1,k2,k3⟩:=k I1 ρ1 w h1 h3
 exact ⟨I2,ρ2,k1,h2.trans k2,k3⟩
theorem HShift.shift {n base:Nat} {fr:Fr} {σ σ':H} (h:HShift G base σ σ'):Shift G n base fr σ fr σ':=fun I ρ w a hR hF hb=>by
 obtain ⟨I1,ρ1,h1,h2,h3⟩:=h I ρ w hR hb
 exact ⟨I1,ρ1,h1,hF.mono h2.imms h2.names,h2,h3⟩
variable {cs:List V} {k v:Nat}
theorem Rel.reseen {I:Imm} {ρ:Names} {σ:H} {w:World} (R:Rel G I ρ σ w) {base T:Nat} {cs':List V} (hbase:base≤k) (ho:σ.o[k]?=some (some (.arr v T cs))) (hob:ObR I ρ w k (.arr v T cs')) :
 Rel G I ρ ⟨σ.t,σ.o.set k (some (.arr v T cs'))⟩ w∧Step base I ρ σ w I ρ ⟨σ.t,σ.o.set k (some (.arr v T cs'))⟩ w:=by
 have hk:k<σ.o.length:=(List.getElem?_eq_some_iff.1 ho).1
 have hblk:∀ n,blk ρ ⟨σ.t,σ.o.set k (some (.arr v T cs'))⟩ n=blk ρ σ n:=fun n=>by
  unfold blk
  by_cases hn:n=k
  ·subst hn
   simp only [List.getElem?_set_self hk,ho,Ob.ver]
  ·simp only [List.getElem?_set_ne (Ne.symm hn)]
 refine ⟨⟨fun n ob hn=>?_,R.fresh,fun n m b h1 h2=>R.sep n m b (hblk n▸h1) (hblk m▸h2),R.imm,fun n b h=>R.immsep n b (hblk n▸h),R.globs⟩,
  ⟨rfl,rfl,rfl,Nat.le_refl _,.refl _,.refl _,Nat.le_refl _,fun _ _ _ h=>.inl h,fun _ _ _=>rfl,fun n b hn h=>.inr ⟨n,hn,hblk n▸h⟩,fun b o h h'=>absurd h h',fun n hn=>.inl (List.getElem?_set_ne (by omega))⟩⟩
 by_cases hnk:n=k
 ·subst hnk
  simp only [List.getElem?_set_self hk,Option.some.injEq] at hn
  subst hn
  exact hob
 ·rw [List.getElem?_set_ne (Ne.symm hnk)] at hn
  exact R.objs n ob hn
theorem HShift.ownAt (sz T:Nat) {base T' p z:Nat} {t:Nat} {o:List (Option Ob)} (hbase:base≤k) (ho:o[k]?=some (some (.arr v T' cs))) (hp:cs[p]?=some (.lst z [] true)) :
 HShift G base ⟨t,o⟩ ⟨t+1,o.set k (some (.arr v T' (cs.set p (.sl o.length t 0 sz 0 none))))++[some (.arr t T [])]⟩:=fun I ρ w R hb=>by
 have hk:k<o.length:=(List.getElem?_eq_some_iff.1 ho).1
 have hpl:p<cs.length:=(List.getElem?_eq_some_iff.1 hp).1
 obtain ⟨R1,S1⟩:=R.nowhere (T:=T) (k:=o.length) hb (σ':=H.push ⟨t,o⟩ (.arr t T [])) (by simp [H.push]) (fun m hm=>by
  simp only [H.push,List.getElem?_append]
  split
  ·rfl
  ·have:m - o.length≠0:=by omega
   rw [List.getElem?_eq_none (l:=o) (by omega)]
   cases h:m - o.length with
   | zero=>exact absurd h this
   | succ j=>rfl) rfl
 have ho1:(H.push ⟨t,o⟩ (.arr t T [])).o[k]?=some (some (.arr v T' cs)):=by
  simp only [H.push,List.getElem?_append,if_pos hk]
  exact ho
 have hob:=R1.objs k _ ho1
 have hob':ObR I (ρ.add o.length t .nowhere) w k (.arr v T' (cs.set p (.sl o.length t 0 sz 0 none))):=by
  rcases hob with ⟨h1,h2⟩ | ⟨b,o',e,c,lo,hi,h1,h2,h3,h4,h5,h6⟩
  ·subst h2; simp at hpl
  ·refine .inr ⟨b,o',e,c,lo,hi,h1,h2,by simpa using h3,h4,h5,fun j u hj=>?_⟩
   by_cases hjp:j=p
   ·subst hjp
    simp only [List.getElem?_set_self hpl,Option.some.injEq] at hj
    subst hj
    obtain ⟨x,q1,q2,q3⟩:=h6 j _ hp
    refine ⟨x,q1,?_,q3⟩
    cases q2 with
    | lstN _ _ _ a cap h =>
      rw [h rfl]
      exact .slN _ _ _ _ _ _ (Names.add_self _ _ _ _) fun m h=>by cases h
    | lst _ _ _ _ _ _ _ f h0=>exact absurd rfl h0
   ·rw [List.getElem?_set_ne (Ne.symm hjp)] at hj
    exact h6 j u hj
 obtain ⟨R2,S2⟩:=R1.reseen (base:=base) hbase ho1 hob'
 have e1:(⟨(H.push ⟨t,o⟩ (.arr t T [])).t,(H.push ⟨t,o⟩ (.arr t T [])).o.set k (some (.arr v T' (cs.set p (.sl o.length t 0 sz 0 none))))⟩:H)=⟨t+1,o.set k (some (.arr v T' (cs.set p (.sl o.length t 0 sz 0 none))))++[some (.arr t T [])]⟩:=by
  simp [H.push,List.set_append,hk]
 rw [e1] at R2 S2
 exact ⟨I,_,R2,S1.trans S2,by simp; have:base≤o.length:=hb; omega⟩
end Go.Am
namespace Go.Am
open Go Go.RowKit Go.WideShapes Go.ChangeShapes
def Qpa (P:Program) (t:TypeId):Bool:=(Zc P t).getD false
def toV:Bool→List V→V
 | true,l=>.agg l
 | false,l=>l.getD 0 .any
def VTs (R:TypeId→List V→Prop):List Field→List V→Prop
 | [],l=>l=[]
 | f::r,l=>∃ l1 l2,l=l1++l2∧R f.type l1∧VTs R r l2
def VT (P:Program):Nat→TypeId→List V→Prop
 | 0,_,_=>False
 | n+1,t,l=>match P.underlying t with
   | some .bool=>∃ b,l=[.bool b]
   | some (.int k)=>∃ i,l=[.int k i]∧(Lit.int k i).wf=true
   | some .string=>∃ s,l=[.str s]∧s.length≤maxLen
   | some (.slice e)=>∃ q:List (List V),l=[.lst (P.cellsOf e) (q.map (toV (Qpa P e))) false]∧q.length≤maxLen∧∀ x∈q,VT P n e x
   | some (.struct fs)=>VTs (VT P n) fs.toList l
   | _=>False
def Qly (P:Program):Nat→List Field→Option Nat
 | o,[]=>some o
 | o,f::r=>if f.offset=o then Qly P (o+P.cellsOf f.type) r else none
def Qo8 (P:Program):Nat→TypeId→Bool
 | 0,_=>false
 | n+1,t=>match P.underlying t with
   | some .bool=>true
   | some (.int _)=>true
   | some .string=>true
   | some (.slice e)=>Qo8 P n e&&decide (0<P.cellsOf e)
   | some (.struct fs)=>Qly P 0 fs.toList==some (P.cellsOf t)&&fs.toList.all fun f=>Qo8 P n f.type
   | _=>false
def X4 (w:World):Imm:=fun b o=>(w.cell? ⟨b,o,none⟩).filter fun x=>x.oneCell'
def Rl (I:Imm) (l:List V) (cs:List Value):Prop:=l.length=cs.length∧∀ (j:Nat) (v:V) (x:Value),l[j]?=some v→cs[j]?=some x→VR I noNames v x∧one x
theorem Rl.append {I l1 l2 c1 c2} (h1:Rl I l1 c1) (h2:Rl I l2 c2):Rl I (l1++l2) (c1++c2):=by
 refine ⟨by simp [h1.1,h2.1],fun j v x hv hx=>?_⟩
 by_cases hj:j<l1.length
 ·rw [List.getElem?_append_left hj] at hv
  rw [List.getElem?_append_left (by rw [← h1.1]; exact hj)] at hx
  exact h1.2 j v x hv hx
 ·rw [List.getElem?_append_right (by omega)] at hv
  rw [List.getElem?_append_right (by rw [← h1.1]; omega),← h1.1] at hx
  exact h2.2 _ v x hv hx
theorem Rl.one {I v x} (h:VR I noNames v x) (h1:Am.one x):Rl I [v] [x]:=by
 refine ⟨rfl,fun j v' x' hv hx=>?_⟩
 cases j with
 | zero=>simp at hv hx; subst hv; subst hx; exact ⟨h,h1⟩
 | succ j=>simp at hv
theorem Qlq {α:Type} {p:Nat→α→Prop}:∀ n,(∀ i,i<n→∃ x,p i x)→∃ q:List α,q.length=n∧∀ i x,q[i]?=some x→p i x
 | 0,_=>⟨[],rfl,fun i x h=>by simp at h⟩
 | n+1,h=>by
   obtain ⟨q,hq,h1⟩:=Qlq n fun i hi=>h i (by omega)
   obtain ⟨x,hx⟩:=h n (by omega)
   refine ⟨q++[x],by simp [hq],fun i y hy=>?_⟩
   by_cases hi:i<n
   ·rw [List.getElem?_append_left (by omega)] at hy; exact h1 i y hy
   ·by_cases he:i=n
    ·subst he
     rw [List.getElem?_append_right (by omega)] at hy
     simp [hq] at hy
     subst hy; exact hx
    ·rw [List.getElem?_append_right (by omega)] at hy
     have:(i - q.length)≠0:=by omega
     obtain ⟨k,hk⟩:=Nat.exists_eq_succ_of_ne_zero this
     rw [hk] at hy; simp at hy
variable {l:List V}
theorem Qth (P:Program) {n:Nat} {t:TypeId} (h:VT P n t l) (ha:Qpa P t=false):∃ v,l=[v]∧v.cells=[v]:=by
 cases n with
 | zero=>exact h.elim
 | succ n =>
   simp only [VT] at h
   split at h
   ·obtain ⟨b,rfl⟩:=h; exact ⟨_,rfl,rfl⟩
   ·obtain ⟨i,rfl,_⟩:=h; exact ⟨_,rfl,rfl⟩
   ·obtain ⟨s,rfl,_⟩:=h; exact ⟨_,rfl,rfl⟩
   ·obtain ⟨q,rfl,_⟩:=h; exact ⟨_,rfl,rfl⟩
   ·rename_i fs hu
    simp [Qpa,Zc,hu,Qtu] at ha
   ·exact h.elim
theorem QrK (P:Program) {n:Nat} {t:TypeId} (h:VT P n t l):(toV (Qpa P t) l).cells=l:=by
 cases ha:Qpa P t with
 | true=>rfl
 | false =>
   obtain ⟨v,rfl,hv⟩:=Qth P h ha
   simpa [toV] using hv
section
variable {H:Type} {enc:TypeId × Value→H} {P:Program} {w:World}
theorem QlV {n m:Nat} (ih:∀ (t:TypeId) (cs:List Value) (x:DataW H × List MemPlace),Qo8 P n t=true→DataW.trod enc P w 0 (fun _=>true) true m t cs=some x→∃ l,VT P n t l∧Rl (X4 w) l cs) {cs:List Value} :
 ∀ (fs:List Field) (o:Nat),Qly P o fs=some cs.length→(∀ f∈fs,Qo8 P n f.type=true∧∃ y,DataW.trod enc P w 0 (fun _=>true) true m f.type ((cs.drop f.offset).take (P.cellsOf f.type))=some y)→∃ l,VTs (VT P n) fs l∧Rl (X4 w) l (cs.drop o)
 | [],o,hc,_=>by
   simp [Qly] at hc
   exact ⟨[],rfl,by subst hc; simp,fun j v x h=>by simp at h⟩
 | f::r,o,hc,hf=>by
   simp only [Qly] at hc
   split at hc
   ·rename_i ho
    obtain ⟨hv,y,hy⟩:=hf f (by simp)
    obtain ⟨l1,g1,g2⟩:=ih _ _ _ hv hy
    obtain ⟨l2,g3,g4⟩:=QlV ih r _ hc fun f' h'=>hf f' (by simp [h'])
    refine ⟨l1++l2,⟨l1,l2,rfl,g1,g3⟩,?_⟩
    have:cs.drop o=(cs.drop f.offset).take (P.cellsOf f.type)++cs.drop (o+P.cellsOf f.type):=by
     rw [ho,← List.drop_drop,List.take_append_drop]
    rw [this]
    exact g2.append g4
   ·cases hc
theorem QBp:∀ (n:Nat) (m:Nat) (t:TypeId) (cs:List Value) (x:DataW H × List MemPlace),Qo8 P n t=true→DataW.trod enc P w 0 (fun _=>true) true m t cs=some x→∃ l,VT P n t l∧Rl (X4 w) l cs:=by
 intro n
 induction n with
 | zero=>intro m t cs x h; simp [Qo8] at h
 | succ n ih =>
   intro m t cs x h ht
   simp only [Qo8] at h
   simp only [VT]
   split at h
   ·rename_i hu
    obtain ⟨b,rfl,_⟩:=DataW.trod_bool hu ht
    exact ⟨_,⟨b,rfl⟩,Rl.one (.bool _ _) rfl⟩
   ·rename_i k hu
    obtain ⟨i,rfl,_,hw⟩:=DataW.trod_int hu ht
    exact ⟨_,⟨i,rfl,hw⟩,Rl.one (.int _ _ _) rfl⟩
   ·rename_i hu
    obtain ⟨s,rfl,_,hw⟩:=DataW.trod_string hu ht
    refine ⟨_,⟨s.data.toList,rfl,by simpa using hw⟩,Rl.one ?_ rfl⟩
    have:Value.string s=.string ⟨s.data.toList.toArray⟩:=by simp
    rw [this]
    exact .str _ _
   ·rename_i e hu
    simp only [Bool.and_eq_true,decide_eq_true_eq] at h
    obtain ⟨he,hsz⟩:=h
    rcases DataW.trod_slice hu ht with ⟨rfl,_⟩ | ⟨a,len,cap,elems,rest,m',_,rfl,_,_,hl,hm,hlen,hel,_,_⟩
    ·exact ⟨_,⟨[],rfl,Nat.zero_le _,by simp⟩,Rl.one (.lstN _ _ _ _ _ (by simp)) rfl⟩
    ·have each:∀ i,i<len→∃ lc:List V × List Value,w.cells? 0 (a.add (i * P.cellsOf e)) (P.cellsOf e)=some lc.2∧VT P n e lc.1∧Rl (X4 w) lc.1 lc.2:=fun i hi=>by
      have h1:=hel i hi
      rw [List.getElem?_eq_getElem (by omega),Option.bind_eq_some_iff] at h1
      obtain ⟨cs,hcs,htr⟩:=h1
      obtain ⟨l,hl1,hl2⟩:=ih m' e cs _ he htr
      exact ⟨(l,cs),hcs,hl1,hl2⟩
     obtain ⟨q,hq,hqe⟩:=Qlq len each
     refine ⟨_,⟨q.map (·.1),rfl,by simp; omega,fun x hx=>?_⟩,Rl.one ?_ rfl⟩
     ·obtain ⟨p,hp,rfl⟩:=List.mem_map.1 hx
      obtain ⟨i,hi⟩:=List.getElem?_of_mem hp
      exact (hqe i p hi).2.1
     ·simp only [List.map_map]
      cases hz:q with
      | nil =>
        have h0:len=0:=by rw [← hq,hz]; rfl
        subst h0
        exact .lstN _ _ _ _ _ (by simp)
      | cons p0 q' =>
        have hpos:0<len:=by rw [← hq,hz]; simp
        rw [← hz]
        obtain ⟨b,o,sp⟩:=a
        have hsp:sp=none:=by
         obtain ⟨hcs,_,_⟩:=hqe 0 p0 (by simp [hz])
         have h1:=(World.cells?_some hcs).2.2 0 hsz
         have h2:=(World.cells?_some hcs).2.1
         rw [List.getElem?_eq_getElem (by omega)] at h1
         simp [Addr.add,World.cell?] at h1
         split at h1
         ·split at h1
          ·cases h1
          ·rename_i h3; simpa using h3
         ·cases h1
        subst hsp
        have key:∀ (j:Nat) (p:List V × List Value),q[j]?=some p→∀ (i:Nat) (c:V),p.1[i]?=some c→X4 w b (o+j * P.cellsOf e+i)=some ((w.cell? ⟨b,o+j * P.cellsOf e+i,none⟩).getD default)∧VR (X4 w) noNames c ((w.cell? ⟨b,o+j * P.cellsOf e+i,none⟩).getD default):=by
         intro j p hp i c hc
         obtain ⟨hcs,_,hR⟩:=hqe j p hp
         have hlen1:=(World.cells?_some hcs).2.1
         have hil:i<P.cellsOf e:=by
          have:=(List.getElem?_eq_some_iff.1 hc).1
          rw [hR.1,hlen1] at this; exact this
         have h1:=(World.cells?_some hcs).2.2 i hil
         have hadd:((⟨b,o,none⟩:Addr).add (j * P.cellsOf e)).add i=⟨b,o+j * P.cellsOf e+i,none⟩:=by
          unfold Addr.add
          by_cases h1:j * P.cellsOf e=0 <;> by_cases h2:i=0 <;> simp [h1,h2]
         rw [hadd,List.getElem?_eq_getElem (by omega)] at h1
         obtain ⟨g1,g2⟩:=hR.2 i c _ hc (List.getElem?_eq_getElem (by omega))
         rw [h1]
         refine ⟨?_,by simpa using g1⟩
         unfold X4
         rw [h1]
         simp [Option.filter]
         exact g2
        have toV_c:∀ (j:Nat) (v:V),(q.map (toV (Qpa P e) ∘ (·.1)))[j]?=some v→∃ p,q[j]?=some p∧v.cells=p.1:=by
         intro j v hv
         rw [List.getElem?_map] at hv
         obtain ⟨p,hp,rfl⟩:=Option.map_eq_some_iff.1 hv
         exact ⟨p,hp,QrK P (hqe j p hp).2.1⟩
        have hl2:(q.map (toV (Qpa P e) ∘ (·.1))).length=len:=by simp [hq]
        rw [← hl2]
        refine .lst _ _ _ _ b o cap (fun j i=>(w.cell? ⟨b,o+j * P.cellsOf e+i,none⟩).getD default) (by simp [hz]) (by rw [hl2]; exact hl) (by simp) ?_ ?_ ?_
        ·intro j v hv
         obtain ⟨p,hp,hc⟩:=toV_c j v hv
         obtain ⟨hcs,_,hR⟩:=hqe j p hp
         rw [hc,hR.1,(World.cells?_some hcs).2.1]
        ·intro j v hv i c hc
         obtain ⟨p,hp,hcc⟩:=toV_c j v hv
         rw [hcc] at hc
         exact (key j p hp i c hc).1
        ·intro j v hv i c hc
         obtain ⟨p,hp,hcc⟩:=toV_c j v hv
         rw [hcc] at hc
         exact (key j p hp i c hc).2
   ·rename_i fs hu
    simp only [Bool.and_eq_true,beq_iff_eq,List.all_eq_true] at h
    obtain ⟨xs,m',rfl,_,hcl,hxl,hx⟩:=DataW.trod_struct hu ht
    obtain ⟨l,h1,h2⟩:=QlV (m:=m') (fun t cs x=>ih m' t cs x) (cs:=cs) fs.toList 0 (by rw [h.1,hcl]) fun f hf=>by
     refine ⟨h.2 f hf,?_⟩
     obtain ⟨i,hi⟩:=List.getElem?_of_mem hf
     have hi':fs[i]?=some f:=by simpa using hi
     have h3:=hx i f hi'
     have:i<fs.size:=(Array.getElem?_eq_some_iff.1 hi').1
     rw [List.getElem?_eq_getElem (by omega)] at h3
     exact ⟨_,h3⟩
    exact ⟨l,h1,by simpa using h2⟩
   ·cases h
def QuT (P:Program) (n:Nat):List TypeId→List V→Prop
 | [],l=>l=[]
 | t::ts,l=>∃ (c:List V) (r:List V),l=toV (Qpa P t) c::r∧VT P n t c∧QuT P n ts r
theorem absVal {n:Nat} {t:TypeId} {v:Value} {d:DataW H} {ps:List MemPlace} {base:Nat} (h:Qo8 P n t=true) (hval:Value.okWide P w .any base t v) (hd:DataW.Trod enc P w 0 (fun _=>true) true t v d ps) :
 ∃ l,VT P n t l∧VR (X4 w) noNames (toV (Qpa P t) l) v:=by
 obtain ⟨m,hm⟩:=hd
 obtain ⟨l,h1,h2⟩:=QBp n m t _ _ h hm
 refine ⟨l,h1,?_⟩
 cases ha:Qpa P t with
 | true =>
   cases n with
   | zero=>exact h1.elim
   | succ n =>
     simp only [VT] at h1
     split at h1 <;> (rename_i hu; simp [Qpa,Zc,hu,Qtu] at ha; try exact h1.elim)
     simp only [Value.okWide,hu] at hval
     obtain ⟨cs,rfl,_,_⟩:=hval
     refine .agg _ _ _ (by rw [h2.1]; simp [Value.cells]) fun j u x hu hx=>(h2.2 j u x hu ?_).1
     simpa [Value.cells] using hx
 | false =>
   obtain ⟨u,rfl,_⟩:=Qth P h1 ha
   have hl:v.cells.size=1:=by have:=h2.1; simpa using this.symm
   have hv:v.cells=#[v]:=by
    cases v with
    | agg cs =>
      exfalso
      cases n with
      | zero=>exact h1.elim
      | succ n =>
        simp only [VT] at h1
        split at h1 <;> rename_i hu <;> first | (simp [Value.okWide,hu,Cell.okWide,Cell.ok] at hval; done) | (simp [Qpa,Zc,hu,Qtu] at ha; done) | exact h1.elim
    | _=>rfl
   rw [hv] at h2
   exact (h2.2 0 u v rfl rfl).1
theorem Qti {n:Nat} {base:Nat}:∀ {ts:List TypeId} {vs:List Value} {ds:List (DataW H)} {ps:List MemPlace},(∀ t∈ts,Qo8 P n t=true)→(∀ (j:Nat) t v,ts[j]?=some t→vs[j]?=some v→Value.okWide P w .any base t v) →
 DataW.TrodAll enc P w 0 (fun _=>true) true ts vs ds ps→∃ l,QuT P n ts l∧l.length=vs.length∧∀ (j:Nat) (v:V) (x:Value),l[j]?=some v→vs[j]?=some x→VR (X4 w) noNames v x
 | [],[],[],_,_,_,_=>⟨[],rfl,rfl,fun j v x h=>by simp at h⟩
 | t::ts,v::vs,d::ds,ps,hok,hval,⟨p,q,h1,h2,_⟩=>by
   obtain ⟨c,hc,hr⟩:=absVal (hok t (by simp)) (hval 0 t v rfl rfl) h1
   obtain ⟨r,g1,g2,g3⟩:=Qti (fun t' h'=>hok t' (by simp [h'])) (fun j t' v' a b=>hval (j+1) t' v' (by simpa using a) (by simpa using b)) h2
   refine ⟨_,⟨c,r,rfl,hc,g1⟩,by simp [g2],fun j u x hu hx=>?_⟩
   cases j with
   | zero=>simp at hu hx; subst hu; subst hx; exact hr
   | succ j=>exact g3 j u x (by simpa using hu) (by simpa using hx)
 | [],_::_,_,_,_,_,h=>h.elim
 | [],[],_::_,_,_,_,h=>h.elim
 | _::_,[],_,_,_,_,h=>h.elim
 | _::_,_::_,[],_,_,_,h=>h.elim
theorem QkX {W W':World} (hl:laidOutB P=true) (hb:Below W.heap.size W W') {sp:Nat→Bool}:∀ {ts:List TypeId} {vs:List Value} {ds:List (DataW H)} {ps:List MemPlace},(∀ t∈ts,P.readableRec t=true∧t<P.types.size) →
 DataW.TrodAll enc P W 0 (fun _=>true) true ts vs ds ps→(∀ p∈ps,p.block<W.heap.size)→(∀ p∈ps,sp p.block=true)→DataW.TrodAll enc P W' 0 sp true ts vs ds ps
 | [],[],[],_,_,h,_,_=>h
 | t::ts,v::vs,d::ds,ps,hr,⟨p,q,h1,h2,e⟩,hlt,hs=>by
   subst e
   exact ⟨p,q,WideElems.Trod_stays hl (hr t (by simp)).1 (hr t (by simp)).2 h1 (fun x hx=>hb.same (hlt x (by simp [hx]))) (fun x hx=>hs x (by simp [hx])),QkX hl hb (fun t' h'=>hr t' (by simp [h'])) h2 (fun x hx=>hlt x (by simp [hx])) (fun x hx=>hs x (by simp [hx])),rfl⟩
 | [],_::_,_,_,_,h,_,_=>h.elim
 | [],[],_::_,_,_,h,_,_=>h.elim
 | _::_,[],_,_,_,h,_,_=>h.elim
 | _::_,_::_,[],_,_,h,_,_=>h.elim
end
theorem QoP {w:World} {b o:Nat} {x:Value} (h:X4 w b o=some x):w.cell? ⟨b,o,none⟩=some x∧one x:=by
 unfold X4 at h
 rw [Option.filter_eq_some_iff] at h
 exact h
theorem relOf {G:Nat→Option V} {w:World} (hG:∀ g x,G g=some x→VR (X4 w) noNames (.ref x 0) (.pointer (some ⟨g,0,none⟩))∧Gv w g x) (t:Nat):Rel G (X4 w) noNames ⟨t,[]⟩ w where
 objs:=fun n ob h=>by simp at h
 fresh:=fun n v l h=>by cases h
 sep:=fun n m b h=>by simp [blk] at h
 imm:=fun b o x h=>QoP h
 immsep:=fun n b h=>by simp [blk] at h
 globs:=hG
section
variable {H:Type} {enc:TypeId × Value→H} {P:Program} {before:List MemPlace}
theorem Qo5 {f:Func} {s:ChangeSpec} {apart fresh handsOn again:Bool} {W W':World} {args:Array Value} {v:Value} {ds gs:List (DataW H)} {pa pv:List MemPlace}
 (hW:DataW.Whole enc P f.params.toList s.vars apart W args.toList ds gs before)
 (hres:∀ (b:Nat) (sp:Nat→Bool) (hd:Bool),DataW.TrodAll enc P W' b sp hd f.resultTypes.toList (v.resultList f.resultTypes.size) (s.fn H (ds++gs)).results [])
 (hargs:∀ sp:Nat→Bool,(∀ p∈before,sp p.block=true)→DataW.TrodAll enc P W' 0 sp true f.params.toList args.toList (s.fn H (ds++gs)).args pa)
 (hvars:∀ sp:Nat→Bool,(∀ p∈before,sp p.block=true)→DataW.TrodVars enc P W' sp s.vars (s.fn H (ds++gs)).vars pv)
 (hps:before=pa++pv) (hb:Below W.heap.size W W')
 (hok:∀ (j:Nat) (t:TypeId) (r:Value),f.resultTypes[j]?=some t→(v.resultList f.resultTypes.size)[j]?=some r→Value.okWide P W' .any 0 t r) :
 s.post enc P f apart fresh handsOn again W args v W':=by
 have hlt:∀ p∈before,p.block<W.heap.size:=fun p hp=>hW.lt p hp
 have hold:∀ p∈before,(fun b=>decide (b<W.heap.size)) p.block=true:=fun p hp=>by simpa using hlt p hp
 refine ⟨ds,gs,before,[],pa,pv,hW,hres _ _ _,hargs _ hold,hvars _ hold,World.keptBut_mono (fun p hp=>⟨hp,?_⟩) (hb.frame (·∈before)),fun _=>?_⟩
 ·rw [hps,List.mem_append] at hp
  exact Or.inr hp
 ·obtain ⟨_,_,_,_,_,hz,hn⟩:=hW
  refine ⟨hok,_,_,([]++pa)++pv,⟨[]++pa,pv,trodAll_append (hargs _ (fun _ _=>rfl)) (hres _ _ _),hvars _ (fun _ _=>rfl),rfl,?_,?_⟩,?_⟩
  ·intro b off hp
   have hin:MemPlace.cell b off∈before:=by rw [hps]; simpa using hp
   rw [hb.frozen (hlt _ hin)]
   exact hz b off hin
  ·intro ha
   have:=hn ha
   rw [hps] at this
   simpa using this
  ·intro p hp _
   rw [hps]
   simpa using hp
theorem QhC {w:World} {base:Nat} {sp:Nat→Bool} {hd:Bool}:∀ {ts:List TypeId} {vs:List Value} {ds:List (DataW H)} {ps:List MemPlace},DataW.TrodAll enc P w base sp hd ts vs ds ps→ts.length=vs.length∧ds.length=ts.length
 | [],[],[],_,_=>⟨rfl,rfl⟩
 | t::ts,v::vs,d::ds,ps,⟨p,q,h1,h2,e⟩=>by
   obtain ⟨a,b⟩:=QhC h2
   exact ⟨by simp [a],by simp [b]⟩
 | [],_::_,_,_,h=>h.elim
 | [],[],_::_,_,h=>h.elim
 | _::_,[],_,_,h=>h.elim
 | _::_,_::_,[],_,h=>h.elim
theorem law {f:FuncId} {fn:Func} {n:Nat} {s:ChangeSpec} {tb:TypeId} {G:Nat→Option V} (QAP:laidOutB P=true) (Qj6:∀ t∈fn.params.toList,Qo8 P n t=true∧P.readableRec t=true∧t<P.types.size)
 (hres:fn.resultTypes=#[tb]) (hbool:P.underlying tb=some .bool) (hvars:s.vars=[]) (hfn:∀ ds:List (DataW H),ds.length=fn.params.toList.length→s.fn H ds={ results:=[.lit (.bool true)],args:=ds })
 (hC:∀ l:List V,QuT P n fn.params.toList l→C P G 0 f l ⟨0,[]⟩ fun v _=>v=.bool true)
 {W:World} {base:Nat} {args:Array Value} {ds gs:List (DataW H)} (hG:∀ g x,G g=some x→VR (X4 W) noNames (.ref x 0) (.pointer (some ⟨g,0,none⟩))∧Gv W g x)
 (hval:∀ (j:Nat) t v,fn.params[j]?=some t→args[j]?=some v→Value.okWide P W .any base t v)
 (hW:DataW.Whole enc P fn.params.toList s.vars false W args.toList ds gs before) :
 Calls P f args W fun e W'=>∃ v,e=.returned v∧s.post enc P fn false true false false W args v W':=by
 have hW':=hW
 obtain ⟨p,q,hA,hV,rfl,hfz,hnd⟩:=hW
 rw [hvars] at hV
 have hgs:gs=[]∧q=[]:=by
  cases gs with
  | nil=>exact ⟨rfl,hV⟩
  | cons g gs=>exact hV.elim
 obtain ⟨rfl,rfl⟩:=hgs
 obtain ⟨hlen,hdl⟩:=QhC hA
 obtain ⟨l,hl1,hl2,hl3⟩:=Qti (n:=n) (base:=base) (fun t ht=>(Qj6 t ht).1) (fun j t v h1 h2=>hval j t v (by simpa using h1) (by simpa using h2)) hA
 have hc:Cells (X4 W) noNames l args:=⟨by rw [hl2]; simp,fun j v x h1 h2=>hl3 j v x h1 (by simpa using h2)⟩
 refine (hC l hl1 _ _ _ _ (relOf hG 0) (Nat.zero_le _) hc).mono fun e W' ⟨v,x,I',ρ',σ',h1,h2,h3,h4,h5,h6⟩=>?_
 subst h6
 cases h2
 have hb:Below W.heap.size W W':=⟨h4.os,h4.tape,h4.output,h4.size,fun b hb=>h4.keep b hb fun n _=>by simp [blk]⟩
 have hlt:∀ x∈p,x.block<W.heap.size:=fun x hx=>hW'.lt x (by simpa using hx)
 have hds:s.fn H (ds++[])={ results:=[.lit (.bool true)],args:=ds }:=by rw [List.append_nil]; exact hfn ds hdl
 refine ⟨_,h1,Qo5 (pa:=p) (pv:=[]) hW' ?_ ?_ ?_ rfl hb (ok_one hres rfl (okWide_bool_mk hbool _))⟩
 ·intro b sp hd
  rw [hds,hres]
  exact trodAll_cons_mk (shut_bool hbool _) trodAll_mk0
 ·intro sp hs
  rw [hds]
  exact QkX QAP hb (fun t ht=>(Qj6 t ht).2) hA hlt fun x hx=>hs x (by simpa using hx)
 ·intro sp hs
  rw [hds,hvars]
  rfl
end
end Go.Am
namespace Go.Am
open Go Go.RowKit
variable {P:Program} {G:Nat→Option V}
theorem QAW (w:World) (k:Nat) (os:Array Obj):Ex w (Go.Sort.grow (w.drewN k) os) :=
 ⟨rfl,rfl,rfl,by simp [Go.Sort.grow,World.drewN],fun b hb=>by
  show ((w.drewN k).heap++os)[b]?=w.heap[b]?
  have:(w.drewN k).heap=w.heap:=rfl
  rw [this,Array.getElem?_append_left hb]⟩
theorem QaC {f:FuncId} {args:List V} {Q:V→Prop} (h:∀ (I:Imm) (w:World) (xs:Array Value),(∀ g x,G g=some x→VR I noNames (.ref x 0) (.pointer (some ⟨g,0,none⟩))∧Gv w g x)→(∀ b o x,I b o=some x→w.cell? ⟨b,o,none⟩=some x)→Cells I noNames args xs →
 Calls P f xs w fun e w'=>∃ v x,e=.returned x∧VR I noNames v x∧Qd v=true∧Q v∧Ex w w') (hn:Qb args=true):Pure P G f args Q:=by
 intro t I ρ w xs hR hb hc
 have hc0:Cells I noNames args xs:=⟨hc.1,fun j v x h1 h2=>(hc.2 j v x h1 h2).noNames (XH hn v (List.mem_of_getElem? h1))⟩
 refine (h I w xs hR.globs (fun b o x hx=>(hR.imm b o x hx).1) hc0).mono fun e w' ⟨v,x,h1,h2,h3,h4,h5⟩=>?_
 exact ⟨v,x,I,ρ,⟨t,[]⟩,h1,h2.mono (Imm.le.refl _) (fun _ _ _ h=>by cases h),hR.ex h5,Step.of_ex h5,hb,h3,h4⟩
def Qdk (k:IntKind) (zs:List Int):V:=.agg (zs.map (V.int k))
variable {g:Nat} {zs:List Int} {k:IntKind} {name:String}
theorem QnI {W:World} (hg:P.globalNamed name=some g) (h:Lib.TabIs P W name k zs) (hz:0<zs.length) :
 VR (X4 W) noNames (.ref (Qdk k zs) 0) (.pointer (some ⟨g,0,none⟩))∧Gv W g (Qdk k zs):=by
 have hcell:∀ i,i<zs.length→W.cell? ⟨g,i,none⟩=some (.int k (zs.getD i 0)):=fun i hi=>h.cell hg i hi
 refine ⟨?_,by simpa [Qdk,V.cells] using hz,?_⟩
 ·have:=VR.ref (I:=X4 W) noNames (Qdk k zs) 0 g 0 (fun j=>.int k (zs.getD j 0)) (fun j c hc=>?_) (fun j c hc=>?_)
  ·simpa using this
  ·simp only [Qdk,V.cells,List.getElem?_map,Option.map_eq_some_iff] at hc
   obtain ⟨z,hz,rfl⟩:=hc
   have hj:=(List.getElem?_eq_some_iff.1 hz).1
   simp only [X4,Nat.zero_add,hcell j hj,Option.filter]
   rfl
  ·simp only [Qdk,V.cells,List.getElem?_map,Option.map_eq_some_iff] at hc
   obtain ⟨z,hz,rfl⟩:=hc
   rw [show zs.getD j 0=z from by simp [List.getD_eq_getElem?_getD,hz]]
   exact .int _ _ _
 ·unfold Lib.TabIs World.var? at h
  rw [hg] at h
  simp only [Option.bind_some] at h
  split at h
  ·rename_i cs T m hc
   injection h with h
   exact ⟨cs,T,m,hc,by subst h; simp [Qdk,V.cells]⟩
  ·cases h
theorem QtJ {I:Imm} {w:World} (hg:P.globalNamed name=some g) (hx:VR I noNames (.ref (Qdk k zs) 0) (.pointer (some ⟨g,0,none⟩))) (hv:Gv w g (Qdk k zs)) (hI:∀ b o x,I b o=some x→w.cell? ⟨b,o,none⟩=some x):Lib.TabIs P w name k zs:=by
 obtain ⟨_,c,T,m,hc,hs⟩:=hv
 unfold Lib.TabIs World.var?
 rw [hg]
 simp only [Option.bind_some,hc]
 congr 1
 have hs':c.size=zs.length:=by simpa [Qdk,V.cells] using hs
 generalize hp:Value.pointer (some ⟨g,0,none⟩)=p at hx
 cases hx with
 | ref _ _ _ b o f g1 g2 =>
   cases hp
   apply Array.ext
   ·simp [hs']
   ·intro j h1 h2
    have hj:(Qdk k zs).cells[j]?=some (V.int k zs[j]):=by simp [Qdk,V.cells]
    have e1:=hI _ _ _ (g1 j _ hj)
    have e2:=g2 j _ hj
    simp only [World.cell?,hc,Nat.zero_add] at e1
    rw [Array.getElem?_eq_getElem h1] at e1
    simp at e1
    rw [e1]
    generalize f j=y at e2
    cases e2
    simp
def Qw (i:Int):List UInt8:=if -9223372036854775808≤i∧i≤9223372036854775807 then Lib.itoa i else []
variable {i:Int}
theorem QtY {f:FuncId} {rest:List V} {restX:List Value} {kt:IntKind} (hg:P.globalNamed name=some g) (hG:G g=some (Qdk kt zs)) (s:List UInt8)
 (hrest:∀ (I:Imm) (xs:Array Value),Cells I noNames (.int k i::rest) xs→xs=(.int k i::restX).toArray) (hn:Qb rest=true)
 (h:∀ w,Lib.TabIs P w name kt zs→Calls P f (.int k i::restX).toArray w fun e w'=>e=.returned (.string ⟨s.toArray⟩)∧∃ k os,w'=Go.Sort.grow (w.drewN k) os):Pure P G f (.int k i::rest) fun v=>v=.str s:=by
 refine QaC (fun I w xs hV hI hc=>?_) (by simp [Qb,Qd,hn])
 rw [hrest I xs hc]
 refine (h w (QtJ hg (hV g _ hG).1 (hV g _ hG).2 hI)).mono fun e w' ⟨he,kk,os,hw⟩=>?_
 subst hw
 exact ⟨.str s,_,he,.str _ _,rfl,rfl,QAW _ _ _⟩
theorem Qo0 {I:Imm} {xs:Array Value} (h:Cells I noNames [.int k i] xs):xs=#[.int k i]:=by
 obtain ⟨h1,h2⟩:=h
 have h1:xs.size=1:=h1.symm
 apply Array.ext
 ·simp [h1]
 ·intro j hj hj'
  have:j=0:=by omega
  subst this
  have:=h2 0 _ xs[0] rfl (Array.getElem?_eq_getElem hj)
  generalize xs[0]=y at this
  cases this
  rfl
end Go.Am
namespace Go.Am
open Go
variable {P:Program} {G:Nat→Option V}
theorem QX {n base:Nat} {x:AC} {s:List KI} {Q:AE→Fr→H→Prop} (J:Nat→Fr→H→Prop) (E:AE→Fr→H→Prop) {m0:Nat} {fr0:Fr} {σ0:H} (h0:J m0 fr0 σ0)
 (round:∀ m fr σ,J m fr σ→W P G n base x fr σ (ZB (fun fr σ=>∃ m' fr' σ',m'<m∧Shift G n base fr σ fr' σ'∧J m' fr' σ') E))
 (after:∀ e fr σ,E e fr σ→sem P G n base Q s e fr σ) :
 sem P G n base Q (.ac (.loop x)::s) .nrm fr0 σ0:=W_inv J (fun m fr σ hJ=>(round m fr σ hJ).conseq fun e fr σ h=>by
  cases e with
  | nrm=>exact h
  | ex id=>exact after _ _ _ h
  | ret=>exact after _ _ _ h) h0
variable {base':Nat}
theorem Qj {T:Nat→Option AF} (hT:Qn P T) {f:Nat} {A:AF} (hf:T f=some A) {n base:Nat} {Q:AE→Fr→H→Prop} {t:AT} {d:Option Nat} {dead:List Nat} {s:List KI} {fr:Fr} {args:List V} {σ:H} {v0:V}
 (h:Pure P G f args fun v=>v=v0) (hn:Qb args=true) (fuel:Nat) (k:run P G n base Q fuel (.at t dead::s) .nrm (fput fr d v0) σ):CV P G base' (.fn (.func f) [] []) args σ (kC P G n base Q d t dead s fr) :=
 Qcc hT hf h hn fuel fun v hv=>by rw [hv]; exact k
theorem C.wk {base f:Nat} {args:List V} {σ:H} {Q:V→H→Prop} (hb:base≤base') (hl:base'≤σ.o.length) (h:C P G base' f args σ Q):C P G base f args σ Q :=
 fun I ρ w xs hR _ hc=>(h I ρ w xs hR hl hc).mono fun e w' ⟨v,x,I',ρ',σ',h1,h2,h3,h4,h5,h6⟩=>⟨v,x,I',ρ',σ',h1,h2,h3,h4.weaken hR hb,by omega,h6⟩
theorem Qoo {base f:Nat} {args:List V} {σ:H} {Q Q2:V→H→Prop} (h:C P G base f args σ Q)
 (k:∀ v σ',Q v σ'→∃ k v' T cs,base≤k∧σ'.o[k]?=some (some (.arr v' T cs))∧Qb cs=true∧Q2 (X3 k v' cs v) ⟨σ'.t,Q5 (X3 k v' cs) base (σ'.o.set k none)⟩):C P G base f args σ Q2:=by
 intro I ρ w xs hR hb hc
 refine (h I ρ w xs hR hb hc).mono fun e w' ⟨v,x,I',ρ',σ',h1,h2,h3,h4,h5,h6⟩=>?_
 obtain ⟨k,v',T,cs,hbase,ho,hn,hq⟩:=k v σ' h6
 obtain ⟨I2,hle,k1,k2,k3⟩:=h3.freeze hbase ho hn
 have hc:∀ u∈cs,u.cells=[u]:=fun u hu=>by
  obtain ⟨j,hj⟩:=List.mem_iff_getElem?.1 hu
  rcases h3.objs k _ ho with ⟨_,h0⟩ | ⟨b,o,e,c,lo,hi,_,_,_,_,_,g⟩
  ·rw [h0] at hu; cases hu
  ·obtain ⟨x,g1,g2,g3⟩:=g j u hj
   cases g2 <;> first | rfl | (simp [one,Value.oneCell'] at g3; done)
 have hF:QuW I2 ρ' k v' cs:=⟨hc,k3⟩
 obtain ⟨q1,q2⟩:=Rel.mapV (base:=base) k1 (g:=X3 k v' cs) (fun u x hu=>hu.frz hF)
 exact ⟨_,x,I2,ρ',_,h1,VR.frz hF (h2.mono hle (Names.le.refl _)),q1,h4.trans (k2.trans q2),by rw [Y4]; simpa using h5,hq⟩
theorem Qn4 (w:World) (n:Nat) (os:Array Obj):Ex w (Go.Sort.grow (Go.Sort.ahead w n) os) :=
 ⟨rfl,rfl,rfl,by simp [Go.Sort.grow,Go.Sort.ahead],fun b hb=>by
  show ((Go.Sort.ahead w n).heap++os)[b]?=w.heap[b]?
  have:(Go.Sort.ahead w n).heap=w.heap:=rfl
  rw [this,Array.getElem?_append_left hb]⟩
end Go.Am
namespace Go.Am
open Go
theorem Qj2 (k:IntKind) (a b:Int):Qf0 [.i] (.int k a) (.int k b)=decide (a=b):=by
 simp [Qf0,V.cells,QcS,QuR]
 by_cases h:a=b <;> simp [h]
def im (k:IntKind) (f:Int→V) (S:List Int):List (V × V):=S.map fun i=>(.int k i,f i)
theorem QaY (k:IntKind) (f:Int→V) (S:List Int) (a:Int):Qfd false [.i] (.int k a) (im k f S):=by
 refine ⟨⟨rfl,by simp [V.cells,QcS,QuR]⟩,fun p hp=>?_⟩
 simp only [im,List.mem_map] at hp
 obtain ⟨i,_,rfl⟩:=hp
 exact ⟨rfl,by simp [V.cells,QcS,QuR]⟩
theorem Qsk (k:IntKind) (f:Int→V) (a:Int):∀ S:List Int,Qtr [.i] (.int k a) (im k f S)=if a∈S then some (f a) else none
 | []=>rfl
 | b::S=>by
   have ih:=Qsk k f a S
   unfold Qtr im at ih ⊢
   simp only [List.map_cons,List.find?_cons,Qj2]
   by_cases h:a=b
   ·simp [h]
   ·simp only [h,decide_false]
    rw [ih]
    simp [h]
theorem Qmv (k:IntKind) (f:Int→V) (a:Int) (v:V) (hv:v=f a):∀ S:List Int,a ∉ S→Qmw [.i] (.int k a) v (im k f S)=im k f (S++[a])
 | [],_=>by simp [im,Qmw,hv]
 | b::S,h=>by
   simp only [List.mem_cons,not_or] at h
   have ih:=Qmv k f a v hv S h.2
   unfold im at ih ⊢
   simp only [List.map_cons,List.cons_append,Qmw,Qj2,h.1,decide_false]
   rw [ih]; simp
variable {P:Program} {G:Nat→Option V}
end Go.Am
namespace Go.Am
open Go
theorem Ya (k:IntKind) {x:Int} (h1:k.min≤x) (h2:x≤k.max):k.wrap x=x:=by
 cases k <;> simp [IntKind.min,IntKind.max,IntKind.wrap,IntKind.bits,IntKind.signed] at * <;> omega
def i64 (i:Int):Prop:=-9223372036854775808≤i∧i≤9223372036854775807
def isD (c:UInt8):Bool:=decide (48≤c.toNat∧c.toNat≤57)
def nx (p:UInt8→Bool):List UInt8→Bool
 | []=>true
 | c::_=>!p c
structure NumOk (fmt:Int→List UInt8):Prop where
 ne:∀ n,i64 n→∃ c s,fmt n=c::s∧(c=45∨isD c=true)
 inj:∀ n m,i64 n→i64 m→∀ u v,nx isD u=true→nx isD v=true→fmt n++u=fmt m++v→n=m∧u=v
theorem Qlu (u:Nat):Lib.decDigits u≠[]:=by
 rw [Lib.decDigits]; split <;> simp
mutual
def veq:V→V→Bool
 | .int k n,.int k' n'=>decide (k=k')&&(n==n')
 | .bool b,.bool b'=>b==b'
 | .str s,.str s'=>s==s'
 | .agg l,.agg l'=>QyH l l'
 | .tup l,.tup l'=>QyH l l'
 | .lst z l t,.lst z' l' t'=>(z==z')&&(t==t')&&QyH l l'
 | _,_=>false
def QyH:List V→List V→Bool
 | [],[]=>true
 | v::l,w::m=>veq v w&&QyH l m
 | _,_=>false
end
mutual
theorem QrG:∀ {v w:V},veq v w=true→Qd v=true∧v=w
 | .int k n,.int k' n',h=>by simp [veq] at h; obtain ⟨rfl,rfl⟩:=h; exact ⟨rfl,rfl⟩
 | .bool b,.bool b',h=>by simp [veq] at h; subst h; exact ⟨rfl,rfl⟩
 | .str s,.str s',h=>by simp [veq] at h; subst h; exact ⟨rfl,rfl⟩
 | .agg l,.agg l',h=>by simp only [veq] at h; obtain ⟨h1,rfl⟩:=QdO h; exact ⟨by simpa [Qd] using h1,rfl⟩
 | .tup l,.tup l',h=>by simp only [veq] at h; obtain ⟨h1,rfl⟩:=QdO h; exact ⟨by simpa [Qd] using h1,rfl⟩
 | .lst z l t,.lst z' l' t',h=>by
   simp only [veq,Bool.and_eq_true,beq_iff_eq] at h
   obtain ⟨⟨rfl,rfl⟩,h⟩:=h
   obtain ⟨h1,rfl⟩:=QdO h
   exact ⟨by simp [Qd,h1],rfl⟩
 | .any,w,h=>by simp [veq] at h
 | .val _,w,h=>by simp [veq] at h
 | .ptr ..,w,h=>by simp [veq] at h
 | .ref ..,w,h=>by simp [veq] at h
 | .sl ..,w,h=>by simp [veq] at h
 | .mp ..,w,h=>by simp [veq] at h
 | .fn ..,w,h=>by simp [veq] at h
 | .iface ..,w,h=>by simp [veq] at h
 | .int ..,.bool _,h | .int ..,.str _,h | .int ..,.agg _,h | .int ..,.tup _,h | .int ..,.lst ..,h | .int ..,.any,h | .int ..,.val _,h | .int ..,.ptr ..,h | .int ..,.ref ..,h | .int ..,.sl ..,h | .int ..,.mp ..,h | .int ..,.fn ..,h | .int ..,.iface ..,h=>by simp [veq] at h
 | .bool ..,.int ..,h | .bool ..,.str _,h | .bool ..,.agg _,h | .bool ..,.tup _,h | .bool ..,.lst ..,h | .bool ..,.any,h | .bool ..,.val _,h | .bool ..,.ptr ..,h | .bool ..,.ref ..,h | .bool ..,.sl ..,h | .bool ..,.mp ..,h | .bool ..,.fn ..,h | .bool ..,.iface ..,h=>by simp [veq] at h
 | .str ..,.int ..,h | .str ..,.bool _,h | .str ..,.agg _,h | .str ..,.tup _,h | .str ..,.lst ..,h | .str ..,.any,h | .str ..,.val _,h | .str ..,.ptr ..,h | .str ..,.ref ..,h | .str ..,.sl ..,h | .str ..,.mp ..,h | .str ..,.fn ..,h | .str ..,.iface ..,h=>by simp [veq] at h
 | .agg ..,.int ..,h | .agg ..,.bool _,h | .agg ..,.str _,h | .agg ..,.tup _,h | .agg ..,.lst ..,h | .agg ..,.any,h | .agg ..,.val _,h | .agg ..,.ptr ..,h | .agg ..,.ref ..,h | .agg ..,.sl ..,h | .agg ..,.mp ..,h | .agg ..,.fn ..,h | .agg ..,.iface ..,h=>by simp [veq] at h
 | .tup ..,.int ..,h | .tup ..,.bool _,h | .tup ..,.str _,h | .tup ..,.agg _,h | .tup ..,.lst ..,h | .tup ..,.any,h | .tup ..,.val _,h | .tup ..,.ptr ..,h | .tup ..,.ref ..,h | .tup ..,.sl ..,h | .tup ..,.mp ..,h | .tup ..,.fn ..,h | .tup ..,.iface ..,h=>by simp [veq] at h
 | .lst ..,.int ..,h | .lst ..,.bool _,h | .lst ..,.str _,h | .lst ..,.agg _,h | .lst ..,.tup _,h | .lst ..,.any,h | .lst ..,.val _,h | .lst ..,.ptr ..,h | .lst ..,.ref ..,h | .lst ..,.sl ..,h | .lst ..,.mp ..,h | .lst ..,.fn ..,h | .lst ..,.iface ..,h=>by simp [veq] at h
theorem QdO:∀ {l m:List V},QyH l m=true→Qb l=true∧l=m
 | [],[],_=>⟨rfl,rfl⟩
 | v::l,w::m,h=>by
   simp only [QyH,Bool.and_eq_true] at h
   obtain ⟨h1,rfl⟩:=QrG h.1
   obtain ⟨h2,rfl⟩:=QdO h.2
   exact ⟨by simp [Qb,h1,h2],rfl⟩
 | [],_::_,h=>by simp [QyH] at h
 | _::_,[],h=>by simp [QyH] at h
end
def Qzf (k:IntKind) (a b:Int):Int:=k.wrap (BitVec.ofInt k.bits a &&& BitVec.ofInt k.bits b).toNat
def orI (k:IntKind) (a b:Int):Int:=k.wrap (BitVec.ofInt k.bits a ||| BitVec.ofInt k.bits b).toNat
def xorI (k:IntKind) (a b:Int):Int:=k.wrap (BitVec.ofInt k.bits a ^^^ BitVec.ofInt k.bits b).toNat
@[go_sem ↓ high] theorem fold_and {k:IntKind} {a b:Int}:k.wrap ((BitVec.ofInt k.bits a &&& BitVec.ofInt k.bits b).toNat:Int)=Qzf k a b:=Eq.symm (by unfold Qzf; exact Eq.refl _)
@[go_sem ↓ high] theorem fold_or {k:IntKind} {a b:Int}:k.wrap ((BitVec.ofInt k.bits a ||| BitVec.ofInt k.bits b).toNat:Int)=orI k a b:=Eq.symm (by unfold orI; exact Eq.refl _)
@[go_sem ↓ high] theorem fold_xor {k:IntKind} {a b:Int}:k.wrap ((BitVec.ofInt k.bits a ^^^ BitVec.ofInt k.bits b).toNat:Int)=xorI k a b:=Eq.symm (by unfold xorI; exact Eq.refl _)
end Go.Am
namespace Go.Am
open Go Go.RowKit
variable {P:Program} {G:Nat→Option V}
theorem Qj8 {w w':World} (h:Below w.heap.size w w'):Ex w w':=⟨h.os,h.tape,h.output,h.size,fun b hb=>h.block b hb⟩
end Go.Am
namespace Go.Am
open Go
end Go.Am
namespace Go.Am
open Go Go.RowKit
variable {P:Program} {G:Nat→Option V}
mutual
inductive Seen (o:List (Option Ob)):V→V→Prop
 | same (v:V):Qd v=true→Seen o v v
 | row (n v off sz:Nat) (lim:Option Nat) (T:TypeId) (cs:List V) (l:List V):o[n]?=some (some (.arr v T cs))→(∀ (j:Nat) (u:V),l[j]?=some u→u.cells.length=sz∧∀ (i:Nat) (c:V),u.cells[i]?=some c→cs[off+j * sz+i]?=some c∧Qd c=true) →
  (l=[]→off=0)→Seen o (.sl n v off sz l.length lim) (.lst sz l false)
 | agg (l m:List V):SeenL o l m→Seen o (.agg l) (.agg m)
inductive SeenL (o:List (Option Ob)):List V→List V→Prop
 | nil:SeenL o [] []
 | cons (v v':V) (l l':List V):Seen o v v'→SeenL o l l'→SeenL o (v::l) (v'::l')
end
mutual
def scal:V→Bool
 | .int ..=>true
 | .bool _=>true
 | .str _=>true
 | .agg l=>QrW l
 | .tup l=>QrW l
 | _=>false
def QrW:List V→Bool
 | []=>true
 | v::l=>scal v&&QrW l
end
theorem QhL:∀ {l:List V},QrW l=true→∀ (j:Nat) (v:V),l[j]?=some v→scal v=true
 | [],_,j,v,h=>by simp at h
 | u::l,hs,j,v,h=>by
   simp only [QrW,Bool.and_eq_true] at hs
   cases j with
   | zero=>simp at h; subst h; exact hs.1
   | succ j=>exact QhL hs.2 j v (by simpa using h)
theorem VR.scal {I:Imm} {ρ:Names} {v:V} {x:Value} (h:VR I ρ v x):scal v=true→∀ I' ρ',VR I' ρ' v x:=by
 induction h with
 | int=>intros; exact .int _ _ _
 | bool=>intros; exact .bool _ _
 | str=>intros; exact .str _ _
 | agg _ l cs hl _ ih =>
   intro hs I' ρ'
   simp only [Am.scal] at hs
   exact .agg _ _ _ hl fun j v x h1 h2=>ih j v x h1 h2 (QhL hs j v h1) I' ρ'
 | tup _ l cs hl _ ih =>
   intro hs I' ρ'
   simp only [Am.scal] at hs
   exact .tup _ _ _ hl fun j v x h1 h2=>ih j v x h1 h2 (QhL hs j v h1) I' ρ'
 | _=>intro hs; simp [Am.scal] at hs
theorem Qj5 {I:Imm} {ρ:Names} {σ:H} {w:World} (R:Rel G I ρ σ w):I.le (X4 w):=fun b o x h=>by
 obtain ⟨h1,h2⟩:=R.imm b o x h
 have h2':x.oneCell'=true:=h2
 unfold X4
 rw [h1]
 simp [Option.filter,h2']
theorem SeenL.len {o:List (Option Ob)}:∀ {l m:List V},SeenL o l m→l.length=m.length
 | [],[],_=>rfl
 | _::_,_::_,.cons _ _ _ _ _ h=>by simp [SeenL.len h]
mutual
theorem Seen.vr {I:Imm} {ρ:Names} {σ:H} {w:World} (R:Rel G I ρ σ w):∀ {v v':V} {x:Value},Seen σ.o v v'→VR I ρ v x→VR (X4 w) noNames v' x
 | _,_,x,.same v hn,h=>(h.noNames hn).mono (Qj5 R) (.refl _)
 | _,_,x,.agg l m hl,h=>by
   generalize hu:V.agg l=u at h
   cases h with
   | agg _ l' cs hlen hc =>
     cases hu
     refine .agg _ _ _ (by rw [← hl.len,hlen]) fun j v x h1 h2=>?_
     exact SeenL.vr R hl cs (fun j v x a b=>hc j v x a b) j v x h1 h2
   | _=>cases hu
 | _,_,x,.row n v off sz lim T cs l ho hl h0,h=>by
   generalize hu:V.sl n v off sz l.length lim=u at h
   cases h with
   | sl _ n' v' off' sz' len' lim' b o e cap hn hle _ _ =>
     cases hu
     by_cases hnil:l=[]
     ·subst hnil; exact .lstN _ _ _ _ _ (by simp)
     ·rcases R.objs n _ ho with ⟨hw,_⟩ | ⟨b',o',e',c,lo,hi,hn',hcc,g1,g2,g3,g4⟩
      ·rw [hn] at hw; cases hw
      ·rw [hn] at hn'; cases hn'
       have key:∀ (j:Nat) (u:V),l[j]?=some u→∀ (i:Nat) (cc:V),u.cells[i]?=some cc→X4 w b (o+off+j * sz+i)=some ((c[o+(off+j * sz+i)]?).getD default)∧VR (X4 w) noNames cc ((c[o+(off+j * sz+i)]?).getD default):=fun j u hj i cc hi=>by
        obtain ⟨q1,q2⟩:=(hl j u hj).2 i cc hi
        obtain ⟨y,r1,r2,r3⟩:=g4 _ cc q1
        have r3':y.oneCell'=true:=r3
        rw [r1]
        refine ⟨?_,(r2.noNames q2).mono (Qj5 R) (.refl _)⟩
        unfold X4
        simp only [World.cell?,hcc]
        rw [show o+off+j * sz+i=o+(off+j * sz+i) by omega,r1]
        simp [Option.filter,r3']
       refine .lst _ _ _ _ b (o+off) cap (fun j i=>(c[o+(off+j * sz+i)]?).getD default) hnil hle (by simp) (fun j u hj=>(hl j u hj).1) (fun j u hj i cc hi=>(key j u hj i cc hi).1) fun j u hj i cc hi=>(key j u hj i cc hi).2
   | slN _ n' v' sz' lim' a hn hm =>
     injection hu with e1 e2 e3 e4 e5 e6
     have:l=[]:=List.eq_nil_of_length_eq_zero e5
     subst this
     exact .lstN _ _ _ _ _ (by simp)
   | _=>cases hu
theorem SeenL.vr {I:Imm} {ρ:Names} {σ:H} {w:World} (R:Rel G I ρ σ w):∀ {l m:List V},SeenL σ.o l m→∀ (xs:Array Value),(∀ (j:Nat) (v:V) (x:Value),l[j]?=some v→xs[j]?=some x→VR I ρ v x) →
 ∀ (j:Nat) (v:V) (x:Value),m[j]?=some v→xs[j]?=some x→VR (X4 w) noNames v x
 | [],[],_,xs,_,j,v,x,h,_=>by simp at h
 | _::_,_::_,.cons a a' l l' h hl,xs,hc,j,v,x,hv,hx=>by
   cases j with
   | zero =>
     simp at hv
     subst hv
     exact Seen.vr R h (hc 0 a x rfl hx)
   | succ j =>
     refine SeenL.vr R hl (xs.extract 1 xs.size) (fun j v x h1 h2=>hc (j+1) v x (by simpa using h1) ?_) j v x (by simpa using hv) ?_
     ·rw [Array.getElem?_extract] at h2
      split at h2
      ·rw [Nat.add_comm] at h2; exact h2
      ·cases h2
     ·have hlt:=(Array.getElem?_eq_some_iff.1 hx).1
      rw [Array.getElem?_extract,if_pos (by omega),Nat.add_comm]
      exact hx
end
variable {args':List V}
theorem C_view {f:FuncId} {args:List V} {Q:V→Prop} (h:Pure P G f args' Q) {base:Nat} {σ:H} (hs:SeenL σ.o args args') (hq:∀ v,Q v→scal v=true) {R:V→H→Prop} (k:∀ v,Q v→R v σ):C P G base f args σ R:=by
 intro I ρ w xs hR hb hc
 have hR0:Rel G (X4 w) noNames ⟨σ.t,[]⟩ w:=⟨fun n ob h=>(by simp at h),fun n v l h=>(by cases h),fun n m b h=>(by simp [blk] at h),fun b o x hx=>by
  unfold X4 at hx
  rw [Option.filter_eq_some_iff] at hx
  exact ⟨hx.1,hx.2⟩,fun n b h=>(by simp [blk] at h),hR.globs_to (Qj5 hR) fun _ _ _ _=>rfl⟩
 have hc0:Cells (X4 w) noNames args' xs:=⟨by rw [← hs.len]; exact hc.1,fun j v x h1 h2=>hs.vr hR xs hc.2 j v x h1 h2⟩
 refine (h σ.t (X4 w) noNames w xs hR0 (Nat.zero_le _) hc0).mono fun e w' ⟨v,x,I',ρ',σ',h1,h2,h3,h4,h5,h6,h7⟩=>?_
 have hE:Ex w w':=⟨h4.os,h4.tape,h4.output,h4.size,fun b hlt=>h4.keep b hlt fun n _=>by simp [blk]⟩
 exact ⟨v,x,I,ρ,σ,h1,h2.scal (hq v h7) _ _,hR.ex hE,Step.of_ex hE,hb,k v h7⟩
theorem Y8 {T:Nat→Option AF} (hT:Qn P T) {f:Nat} {A:AF} (hf:T f=some A) {n base base':Nat} {Q:AE→Fr→H→Prop} {t:AT} {d:Option Nat} {dead:List Nat} {s:List KI} {fr:Fr} {args:List V} {σ:H} {v0:V}
 (h:Pure P G f args' fun v=>v=v0) (hs:SeenL σ.o args args') (hv:scal v0=true) (fuel:Nat) (k:run P G n base Q fuel (.at t dead::s) .nrm (fput fr d v0) σ):CV P G base' (.fn (.func f) [] []) args σ (kC P G n base Q d t dead s fr) :=
 call hT hf (C_view (R:=fun v σ'=>v=v0∧σ'=σ) h hs (fun v e=>e▸hv) fun v e=>⟨e,rfl⟩) fuel fun v σ' ⟨e1,e2⟩=>by rw [e1,e2]; exact k
end Go.Am
namespace Go.Am
open Go
variable {P:Program} {G:Nat→Option V}
mutual
inductive Wk:V→V→Prop
 | refl (v:V):Wk v v
 | lst (z z':Nat) (l m:List V) (t:Bool):WkL l m→(l=[]∨z=z')→Wk (.lst z l t) (.lst z' m false)
 | agg (l m:List V):WkL l m→Wk (.agg l) (.agg m)
 | tup (l m:List V):WkL l m→Wk (.tup l) (.tup m)
inductive WkL:List V→List V→Prop
 | nil:WkL [] []
 | cons (v v':V) (l l':List V):Wk v v'→WkL l l'→WkL (v::l) (v'::l')
end
theorem WkL.refl:∀ l:List V,WkL l l
 | []=>.nil
 | v::l=>.cons _ _ _ _ (.refl v) (WkL.refl l)
theorem WkL.len:∀ {l m:List V},WkL l m→l.length=m.length
 | [],[],_=>rfl
 | _::_,_::_,.cons _ _ _ _ _ h=>by simp [WkL.len h]
theorem WkL.get:∀ {l m:List V},WkL l m→∀ (j:Nat) (v':V),m[j]?=some v'→∃ v,l[j]?=some v∧Wk v v'
 | [],[],_,j,v',h=>by simp at h
 | _::_,_::_,.cons a a' l l' h hl,j,v',hv=>by
   cases j with
   | zero=>simp at hv; subst hv; exact ⟨a,rfl,h⟩
   | succ j=>exact WkL.get hl j v' (by simpa using hv)
theorem WkL.map {α:Type} {f g:α→V}:∀ {l:List α},(∀ x∈l,Wk (f x) (g x))→WkL (l.map f) (l.map g)
 | [],_=>.nil
 | x::l,h=>.cons _ _ _ _ (h x (by simp)) (WkL.map fun y hy=>h y (by simp [hy]))
theorem Wk.cells {v v':V} (h:Wk v v'):WkL v.cells v'.cells:=by
 cases h with
 | refl=>exact .refl _
 | lst z z' l m t h hz=>exact .cons _ _ _ _ (.lst z z' l m t h hz) .nil
 | agg l m h=>exact h
 | tup l m h=>exact .cons _ _ _ _ (.tup l m h) .nil
variable {x y:Value}
theorem VR.wk {I:Imm} {ρ:Names} {v:V} (h:VR I ρ v x):∀ {v':V},Wk v v'→VR I ρ v' x:=by
 induction h with
 | agg _ l cs hl hc ih =>
   intro v' hw
   cases hw with
   | refl=>exact .agg _ _ _ hl hc
   | agg _ m hm =>
     refine .agg _ _ _ (by rw [← hm.len,hl]) fun j u x hu hx=>?_
     obtain ⟨w,hw,hk⟩:=hm.get j u hu
     exact ih j w x hw hx hk
 | tup _ l cs hl hc ih =>
   intro v' hw
   cases hw with
   | refl=>exact .tup _ _ _ hl hc
   | tup _ m hm =>
     refine .tup _ _ _ (by rw [← hm.len,hl]) fun j u x hu hx=>?_
     obtain ⟨w,hw,hk⟩:=hm.get j u hu
     exact ih j w x hw hx hk
 | lst ρ sz l tight b o cap f h0 h1 h2 h3 h4 h5 ih =>
   intro v' hw
   cases hw with
   | refl=>exact .lst _ _ _ _ _ _ _ f h0 h1 h2 h3 h4 h5
   | lst _ z' _ m _ hm hz =>
     obtain rfl:=hz.resolve_left h0
     have hml:=hm.len
     rw [hml] at h1 ⊢
     refine .lst _ _ _ _ b o cap f (fun e=>h0 (by rw [e] at hml; exact List.eq_nil_of_length_eq_zero (by simpa using hml))) h1 (by simp) (fun j u hj=>?_) (fun j u hj i c hc=>?_) fun j u hj i c hc=>?_
     ·obtain ⟨w,hw,hk⟩:=hm.get j u hj
      rw [← hk.cells.len]; exact h3 j w hw
     ·obtain ⟨w,hw,hk⟩:=hm.get j u hj
      obtain ⟨d,hd,_⟩:=hk.cells.get i c hc
      exact h4 j w hw i d hd
     ·obtain ⟨w,hw,hk⟩:=hm.get j u hj
      obtain ⟨d,hd,hk'⟩:=hk.cells.get i c hc
      exact ih j w hw i d hd hk'
 | lstN ρ sz tight a cap h =>
   intro v' hw
   cases hw with
   | refl=>exact .lstN _ _ _ _ _ h
   | lst _ z' _ m _ hm hz =>
     cases hm
     exact .lstN _ _ _ _ _ (by simp)
 | ref ρ x off b o f h1 h2 _ =>
   intro v' hw; cases hw; exact .ref _ _ _ _ _ f h1 h2
 | any=>intro v' hw; cases hw; exact .any _ _
 | int=>intro v' hw; cases hw; exact .int _ _ _
 | bool=>intro v' hw; cases hw; exact .bool _ _
 | str=>intro v' hw; cases hw; exact .str _ _
 | val=>intro v' hw; cases hw; exact .val _ _
 | ptr _ _ _ _ _ _ _ h=>intro v' hw; cases hw; exact .ptr _ _ _ _ _ _ _ h
 | sl _ _ _ _ _ _ _ _ _ _ _ h h1 h2 h3=>intro v' hw; cases hw; exact .sl _ _ _ _ _ _ _ _ _ _ _ h h1 h2 h3
 | slN _ _ _ _ _ _ h h1=>intro v' hw; cases hw; exact .slN _ _ _ _ _ _ h h1
 | mp _ _ _ _ _ _ h=>intro v' hw; cases hw; exact .mp _ _ _ _ _ _ h
 | fn _ _ _ _ _ _ h1 h2 h3 h4=>intro v' hw; cases hw; exact .fn _ _ _ _ _ _ h1 h2 h3 h4
 | iface _ _ _ _ h=>intro v' hw; cases hw; exact .iface _ _ _ _ h
variable {args':List V}
theorem C_args {base f:Nat} {args:List V} {σ:H} {Q:V→H→Prop} (hw:WkL args args') (h:C P G base f args' σ Q):C P G base f args σ Q:=fun I ρ w xs hR hb hc =>
 h I ρ w xs hR hb ⟨by rw [← hw.len]; exact hc.1,fun j v x h1 h2=>by
   obtain ⟨u,hu,hk⟩:=hw.get j v h1
   exact (hc.2 j u x hu h2).wk hk⟩
theorem Pure.args {f:FuncId} {args:List V} {Q:V→Prop} (hw:WkL args args') (h:Pure P G f args' Q):Pure P G f args Q:=fun t=>C_args hw (h t)
theorem QfG {base f:Nat} {args:List V} {σ:H} {Q Q2:V→H→Prop} (h:C P G base f args σ Q) (k:∀ v σ',Q v σ'→∃ v',Wk v v'∧Q2 v' σ'):C P G base f args σ Q2:=fun I ρ w xs hR hb hc =>
 (h I ρ w xs hR hb hc).mono fun e w' ⟨v,x,I',ρ',σ',h1,h2,h3,h4,h5,h6⟩=>by
  obtain ⟨v',hk,hq⟩:=k v σ' h6
  exact ⟨v',x,I',ρ',σ',h1,h2.wk hk,h3,h4,h5,hq⟩
variable {a b:V}
theorem Pure.res {f:FuncId} {args:List V} (hw:Wk a b) (hn:Qd b=true) (h:Pure P G f args fun v=>v=a):Pure P G f args fun v=>v=b:=fun t=>QfG (h t) fun v σ' ⟨_,e⟩=>⟨b,e▸hw,hn,rfl⟩
theorem C_own (sz T:Nat) {base f:Nat} {args:List V} {σ:H} {Q Q2:V→H→Prop} (h:C P G base f args σ Q)
 (k:∀ v σ',Q v σ'→Q2 v σ'∨∃ z,v=.lst z [] true∧Q2 (.sl σ'.o.length σ'.t 0 sz 0 none) ⟨σ'.t+1,σ'.o++[some (.arr σ'.t T [])]⟩):C P G base f args σ Q2:=by
 intro I ρ w xs R hb hc
 refine (h I ρ w xs R hb hc).mono fun e w' ⟨v,x,I',ρ',σ',h1,h2,h3,h4,h5,h6⟩=>?_
 rcases k v σ' h6 with hq | ⟨z,rfl,hq⟩
 ·exact ⟨v,x,I',ρ',σ',h1,h2,h3,h4,h5,hq⟩
 ·obtain ⟨R1,S1⟩:=h3.nowhere (T:=T) (k:=σ'.o.length) (base:=base) h5 (σ':=H.push σ' (.arr σ'.t T [])) (by simp [H.push]) (fun m hm=>by
   simp only [H.push,List.getElem?_append]
   split
   ·rfl
   ·have:m - σ'.o.length≠0:=by omega
    rw [List.getElem?_eq_none (l:=σ'.o) (by omega)]
    cases h:m - σ'.o.length with
    | zero=>exact absurd h this
    | succ j=>rfl) rfl
  refine ⟨.sl σ'.o.length σ'.t 0 sz 0 none,x,I',_,_,h1,?_,R1,h4.trans S1,by simp [H.push]; omega,hq⟩
  generalize hu:V.lst z [] true=u at h2
  cases h2 with
  | lstN _ _ _ a cap h =>
    cases hu
    rw [h rfl]
    exact .slN _ _ _ _ _ _ (Names.add_self _ _ _ _) fun m h=>by cases h
  | lst _ _ _ _ _ _ _ f h0=>cases hu; exact absurd rfl h0
  | _=>cases hu
theorem CV.use {n base base':Nat} {args:List V} {σ:H} {R:V→H→Prop} {Q:AE→Fr→H→Prop} {t:AT} {d:Option Nat} {dead:List Nat} {s:List KI} {fr:Fr} {fv:V} (fuel:Nat)
 (h:CV P G base' fv args σ R) (k:∀ v σ',R v σ'→run P G n base Q fuel (.at t dead::s) .nrm (fput fr d v) σ'):CV P G base' fv args σ (kC P G n base Q d t dead s fr):=by
 unfold CV at h ⊢
 split at h
 ·exact ⟨h.1,h.2.conseq fun v σ' hq=>Qc fuel (k v σ' hq)⟩
 ·exact h
theorem CV.of {T:Nat→Option AF} (hT:Qn P T) {f:Nat} {A:AF} (hf:T f=some A) {base:Nat} {args cap:List V} {σ:H} {R:V→H→Prop} (h:C P G base f (args++cap) σ R):CV P G base (.fn (.func f) [] cap) args σ R :=
 Qzh hT hf (by rw [List.nil_append]; exact h)
def Qfh (fr:Fr):Fr→Prop
 | []=>True
 | p::l=>Qi fr p.1=p.2∧Qfh fr l
theorem Qf4 {fr:Fr}:∀ {l:Fr},Qfh fr l→∀ t,Qi l t=Qi fr t∨Qi l t=.any
 | [],_,t=>.inr rfl
 | (i,v)::l,h,t=>by
   simp only [Qi]
   split
   ·rename_i e; subst e; exact .inl h.1.symm
   ·exact Qf4 h.2 t
variable {c:AC}
theorem QgA {n base:Nat} {fr:Fr} {σ:H} {Q:AE→Fr→H→Prop} (l:Fr) (h:Qfh fr l) (k:W P G n base c l σ Q):W P G n base c fr σ Q:=Qtj (Shift.frame (Qf4 h)) k
theorem Qh {n base:Nat} {fr:Fr} {σ:H} {Q:AE→Fr→H→Prop} (l:Fr) (h:Qfh fr l) (f:Nat) (k:run P G n base Q f [.ac c] .nrm l σ):W P G n base c fr σ Q:=QgA l h (Qx f k)
theorem Y6 {base f:Nat} {args:List V} {σ:H} {Q Q2:V→H→Prop} (h:C P G base f args σ Q)
 (k:∀ v σ',Q v σ'→Q2 v σ'∨∃ k v' T cs,base≤k∧σ'.o[k]?=some (some (.arr v' T cs))∧Qb cs=true∧Q2 (X3 k v' cs v) ⟨σ'.t,Q5 (X3 k v' cs) base (σ'.o.set k none)⟩):C P G base f args σ Q2:=by
 intro I ρ w xs R hb hc
 refine (h I ρ w xs R hb hc).mono fun e w' ⟨v,x,I',ρ',σ',h1,h2,h3,h4,h5,h6⟩=>?_
 rcases k v σ' h6 with hq | ⟨k,v',T,cs,hbase,ho,hn,hq⟩
 ·exact ⟨v,x,I',ρ',σ',h1,h2,h3,h4,h5,hq⟩
 obtain ⟨I2,hle,k1,k2,k3⟩:=h3.freeze hbase ho hn
 have hc:∀ u∈cs,u.cells=[u]:=fun u hu=>by
  obtain ⟨j,hj⟩:=List.mem_iff_getElem?.1 hu
  rcases h3.objs k _ ho with ⟨_,h0⟩ | ⟨b,o,e,c,lo,hi,_,_,_,_,_,g⟩
  ·rw [h0] at hu; cases hu
  ·obtain ⟨x,g1,g2,g3⟩:=g j u hj
   cases g2 <;> first | rfl | (simp [one,Value.oneCell'] at g3; done)
 have hF:QuW I2 ρ' k v' cs:=⟨hc,k3⟩
 obtain ⟨q1,q2⟩:=Rel.mapV (base:=base) k1 (g:=X3 k v' cs) (fun u x hu=>hu.frz hF)
 exact ⟨_,x,I2,ρ',_,h1,VR.frz hF (h2.mono hle (Names.le.refl _)),q1,h4.trans (k2.trans q2),by rw [Y4]; simpa using h5,hq⟩
theorem QkZ {n base:Nat} {Q:AE→Fr→H→Prop} {s:List KI} {fr:Fr} {σ:H} (l:Fr) (h:Qfh fr l) (k:sem P G n base Q (.ac c::s) .nrm l σ):sem P G n base Q (.ac c::s) .nrm fr σ:=Xk (Shift.frame (Qf4 h)) k
theorem QyQ {I:Imm} {ρ:Names} {f:Fn} (h:VR I ρ (.fn f [] []) y):y=.func f #[] #[]:=by
 generalize hu:V.fn f [] []=u at h
 cases h with
 | fn _ _ l cs m ds h1 h2 => 
   cases hu
   have e1:cs=#[]:=Array.eq_empty_of_size_eq_zero h1.symm
   have e2:ds=#[]:=Array.eq_empty_of_size_eq_zero h2.symm
   rw [e1,e2]
 | _=>cases hu
variable {lim:Option Nat} {zs zs':List Int} {o:List (Option Ob)} {g k v T z:Nat}
theorem Qtn {f base t:Nat} (hk:base≤k) (ho:o[k]?=some (some (.arr v T (zs.map (V.int .i64))))) (hne:zs≠[]) (hl:zs'.length=zs.length)
 (hs:∀ (blk off cap:Nat) (w:World),Go.Sort.Holds (Value.int .i64) w blk off zs.toArray→blk<w.heap.size→Calls P f #[.slice (some ⟨blk,off,none⟩) zs.length cap,.func (.func g) #[] #[]] w fun e w'=>e=.returned (.tuple #[])∧∃ n os,w'=Go.Sort.grow (Go.Sort.putRow (Value.int .i64) (Go.Sort.ahead w n) blk off zs'.toArray) os) :
 C P G base f [.sl k v 0 1 zs.length lim,.fn (.func g) [] []] ⟨t,o⟩ fun r σ'=>r=.tup []∧σ'=⟨t,o.set k (some (.arr v T (zs'.map (V.int .i64))))⟩:=by
 intro I ρ w xs hR hb hc
 have hx1:xs.size=2:=hc.1.symm
 obtain ⟨x,y,rfl⟩:∃ x y,xs=#[x,y]:=⟨xs[0],xs[1],by
  apply Array.ext
  ·simp [hx1]
  ·intro j h1 h2
   have:j=0∨j=1:=by omega
   rcases this with rfl | rfl <;> rfl⟩
 have hv:=hc.2 0 _ x rfl rfl
 have hy:y=.func (.func g) #[] #[]:=QyQ (hc.2 1 _ y rfl rfl)
 subst hy
 have hpos:0<zs.length:=List.length_pos_iff.2 hne
 have hsome:∃ b o' e cap,ρ k v=some (.at b o' e)∧x=.slice (some ⟨b,o'+0,none⟩) zs.length cap:=by
  generalize hu:V.sl k v 0 1 zs.length lim=u at hv
  cases hv with
  | sl _ _ _ _ _ _ _ b o e cap h1 _ _ _=>cases hu; exact ⟨_,_,_,_,h1,rfl⟩
  | slN=>injection hu; omega
  | _=>cases hu
 obtain ⟨b,o',e,cap,hn,rfl⟩:=hsome
 rcases hR.objs k _ ho with ⟨h0,_⟩ | ⟨b',o2,e',c,lo,hi,hn',hcc,g1,g2,g3,g4⟩
 ·rw [hn] at h0; cases h0
 ·rw [hn] at hn'; cases hn'
  simp only [List.length_map] at g1
  have hblk:b<w.heap.size:=(Array.getElem?_eq_some_iff.1 hcc).1
  have hH:Go.Sort.Holds (Value.int .i64) w b o' zs.toArray:=fun j hj=>by
   have hj:j<zs.length:=by simpa using hj
   obtain ⟨y,q1,q2,_⟩:=g4 j (V.int .i64 zs[j]) (by simp [hj])
   cases q2
   refine ⟨?_,?_⟩
   ·simp [World.cell?,hcc,q1,hj]
   ·simp only [World.frozen?,hcc]
    have:=Qid g3 (o'+j) (by omega)
    simp only [Bool.and_eq_false_iff,decide_eq_false_iff_not]
    omega
  refine (hs b o' cap w hH hblk).mono fun ee w' ⟨h1,n,os,h2⟩=>?_
  rw [Go.Sort.putRow_ahead] at h2
  have hc':(Go.Sort.putRow (Value.int .i64) w b o' zs'.toArray).heap[b]?=some (.cells (Go.Sort.putCells (Value.int .i64) o' zs'.toArray c) T (lo,hi)):=by
   simp [Go.Sort.putRow,Go.Sort.mapBlock,Array.getElem?_modify,hcc,Go.Sort.onCells]
  have hko:k<o.length:=(List.getElem?_eq_some_iff.1 ho).1
  obtain ⟨r1,r2⟩:=hR.upd (base:=base) hk (ρ':=ρ) (σ':=⟨t,o.set k (some (.arr v T (zs'.map (V.int .i64))))⟩) (w':=Go.Sort.putRow (Value.int .i64) w b o' zs'.toArray) (ob:=.arr v T (zs'.map (V.int .i64)))
   (by simp [hko]) (fun m hm=>by simp [List.getElem?_set_ne (Ne.symm hm)]) (Nat.le_refl _) (Names.le.refl _) (fun _ _ _ h=>.inl h) rfl rfl rfl (by simp) (fun b2 hb2 hne2=>by
    have:b≠b2:=fun h=>hne2 (by subst h; simp [blk,ho,Ob.ver,hn,Loc.block])
    simp [Go.Sort.putRow,Go.Sort.mapBlock,Array.getElem?_modify,this])
   (.inr ⟨b,o',e,_,lo,hi,hn,hc',by simp [hl]; exact g1,by simpa [Go.Sort.putCells] using g2,g3,fun j u hu=>by
    simp only [List.getElem?_map,Option.map_eq_some_iff] at hu
    obtain ⟨z,hz,rfl⟩:=hu
    have hj:j<zs'.length:=(List.getElem?_eq_some_iff.1 hz).1
    have hzj:=(List.getElem?_eq_some_iff.1 hz).2
    refine ⟨.int .i64 z,?_,.int _ _ _,rfl⟩
    have hsz:o'+j<c.size:=by omega
    simp only [Go.Sort.putCells,Array.getElem?_mapIdx,Array.getElem?_eq_getElem hsz,Option.map_some]
    rw [if_pos (by simp; omega)]
    simp [hj,hzj]⟩) (fun b2 hb2=>by
     right
     simp only [Ob.ver] at hb2
     simpa [blk,ho,Ob.ver] using hb2)
  have hE:=Qn4 (Go.Sort.putRow (Value.int .i64) w b o' zs'.toArray) n os
  subst h2
  exact ⟨.tup [],_,I,ρ,_,h1,.tup _ _ _ rfl (fun j v x h=>by simp at h),r1.ex hE,r2.trans (Step.of_ex hE),by simpa using hb,rfl,rfl⟩
theorem Qon {f base t:Nat} 
 (hs:∀ (p:Option Addr) (cap:Nat) (w:World),Calls P f #[.slice p 0 cap,.func (.func g) #[] #[]] w fun e w'=>e=.returned (.tuple #[])∧w'=w) :
 C P G base f [.sl k v 0 z 0 lim,.fn (.func g) [] []] ⟨t,o⟩ fun r σ'=>r=.tup []∧σ'=⟨t,o⟩:=by
 intro I ρ w xs hR hb hc
 have hx1:xs.size=2:=hc.1.symm
 obtain ⟨x,y,rfl⟩:∃ x y,xs=#[x,y]:=⟨xs[0],xs[1],by
  apply Array.ext
  ·simp [hx1]
  ·intro j h1 h2
   have:j=0∨j=1:=by omega
   rcases this with rfl | rfl <;> rfl⟩
 have hv:=hc.2 0 _ x rfl rfl
 have hy:y=.func (.func g) #[] #[]:=QyQ (hc.2 1 _ y rfl rfl)
 subst hy
 have hsome:∃ p cap,x=.slice p 0 cap:=by
  generalize hu:V.sl k v 0 z 0 lim=u at hv
  cases hv with
  | sl _ _ _ _ _ _ _ b o e cap h1 _ _ _=>cases hu; exact ⟨_,_,rfl⟩
  | slN=>exact ⟨_,_,rfl⟩
  | _=>cases hu
 obtain ⟨p,cap,rfl⟩:=hsome
 refine (hs p cap w).mono fun e w' ⟨h1,h2⟩=>?_
 subst h2
 exact ⟨.tup [],_,I,ρ,_,h1,.tup _ _ _ rfl (fun j v x h=>by simp at h),hR,Step.refl _ _ _ _ _,hb,rfl,rfl⟩
theorem C_cut {f base t m:Nat} (hk:base≤k) (ho:o[k]?=some (some (.arr v T (zs.map (V.int .i64))))) (hne:zs≠[]) (hl:zs'.length=zs.length) (hm:m≤zs.length)
 (hs:∀ (blk off cap:Nat) (w:World),Go.Sort.Holds (Value.int .i64) w blk off zs.toArray→zs.length≤cap→Calls P f #[.slice (some ⟨blk,off,none⟩) zs.length cap] w fun e w'=>e=.returned (.slice (some ⟨blk,off,none⟩) m cap)∧∃ n,w'=Go.Sort.putRow (Value.int .i64) (Go.Sort.ahead w n) blk off zs'.toArray) :
 C P G base f [.sl k v 0 1 zs.length none] ⟨t,o⟩ fun r σ'=>r=.sl k v 0 1 m none∧σ'=⟨t,o.set k (some (.arr v T (zs'.map (V.int .i64))))⟩:=by
 intro I ρ w xs hR hb hc
 have hx1:xs.size=1:=hc.1.symm
 obtain ⟨x,rfl⟩:∃ x,xs=#[x]:=⟨xs[0],by
  apply Array.ext
  ·simp [hx1]
  ·intro j h1 h2
   have:j=0:=by omega
   subst this; rfl⟩
 have hv:=hc.2 0 _ x rfl rfl
 have hpos:0<zs.length:=List.length_pos_iff.2 hne
 have hsome:∃ b o' e cap,ρ k v=some (.at b o' e)∧x=.slice (some ⟨b,o'+0,none⟩) zs.length cap∧zs.length≤cap∧o'+0+cap * 1=e:=by
  generalize hu:V.sl k v 0 1 zs.length none=u at hv
  cases hv with
  | sl _ _ _ _ _ _ _ b o e cap h1 h2 _ h4=>cases hu; exact ⟨_,_,_,_,h1,rfl,h2,h4 rfl⟩
  | slN=>injection hu; omega
  | _=>cases hu
 obtain ⟨b,o',e,cap,hn,rfl,hcap,hce⟩:=hsome
 rcases hR.objs k _ ho with ⟨h0,_⟩ | ⟨b',o2,e',c,lo,hi,hn',hcc,g1,g2,g3,g4⟩
 ·rw [hn] at h0; cases h0
 ·rw [hn] at hn'; cases hn'
  simp only [List.length_map] at g1
  have hblk:b<w.heap.size:=(Array.getElem?_eq_some_iff.1 hcc).1
  have hH:Go.Sort.Holds (Value.int .i64) w b o' zs.toArray:=fun j hj=>by
   have hj:j<zs.length:=by simpa using hj
   obtain ⟨y,q1,q2,_⟩:=g4 j (V.int .i64 zs[j]) (by simp [hj])
   cases q2
   refine ⟨?_,?_⟩
   ·simp [World.cell?,hcc,q1,hj]
   ·simp only [World.frozen?,hcc]
    have:=Qid g3 (o'+j) (by omega)
    simp only [Bool.and_eq_false_iff,decide_eq_false_iff_not]
    omega
  refine (hs b o' cap w hH hcap).mono fun ee w' ⟨h1,n,h2⟩=>?_
  rw [Go.Sort.putRow_ahead] at h2
  have hc':(Go.Sort.putRow (Value.int .i64) w b o' zs'.toArray).heap[b]?=some (.cells (Go.Sort.putCells (Value.int .i64) o' zs'.toArray c) T (lo,hi)):=by
   simp [Go.Sort.putRow,Go.Sort.mapBlock,Array.getElem?_modify,hcc,Go.Sort.onCells]
  have hko:k<o.length:=(List.getElem?_eq_some_iff.1 ho).1
  obtain ⟨r1,r2⟩:=hR.upd (base:=base) hk (ρ':=ρ) (σ':=⟨t,o.set k (some (.arr v T (zs'.map (V.int .i64))))⟩) (w':=Go.Sort.putRow (Value.int .i64) w b o' zs'.toArray) (ob:=.arr v T (zs'.map (V.int .i64)))
   (by simp [hko]) (fun m hm=>by simp [List.getElem?_set_ne (Ne.symm hm)]) (Nat.le_refl _) (Names.le.refl _) (fun _ _ _ h=>.inl h) rfl rfl rfl (by simp) (fun b2 hb2 hne2=>by
    have:b≠b2:=fun h=>hne2 (by subst h; simp [blk,ho,Ob.ver,hn,Loc.block])
    simp [Go.Sort.putRow,Go.Sort.mapBlock,Array.getElem?_modify,this])
   (.inr ⟨b,o',e,_,lo,hi,hn,hc',by simp [hl]; exact g1,by simpa [Go.Sort.putCells] using g2,g3,fun j u hu=>by
    simp only [List.getElem?_map,Option.map_eq_some_iff] at hu
    obtain ⟨z,hz,rfl⟩:=hu
    have hj:j<zs'.length:=(List.getElem?_eq_some_iff.1 hz).1
    have hzj:=(List.getElem?_eq_some_iff.1 hz).2
    refine ⟨.int .i64 z,?_,.int _ _ _,rfl⟩
    have hsz:o'+j<c.size:=by omega
    simp only [Go.Sort.putCells,Array.getElem?_mapIdx,Array.getElem?_eq_getElem hsz,Option.map_some]
    rw [if_pos (by simp; omega)]
    simp [hj,hzj]⟩) (fun b2 hb2=>by
     right
     simp only [Ob.ver] at hb2
     simpa [blk,ho,Ob.ver] using hb2)
  have hE:=Qn4 (Go.Sort.putRow (Value.int .i64) w b o' zs'.toArray) n #[]
  rw [Go.Sort.grow_empty] at hE
  subst h2
  exact ⟨.sl k v 0 1 m none,_,I,ρ,_,h1,.sl _ _ _ _ _ _ _ b o' e cap hn (by omega) (fun _ h=>by cases h) (fun _=>hce),r1.ex hE,r2.trans (Step.of_ex hE),by simpa using hb,rfl,rfl⟩
theorem C_cut0 {f base t:Nat} 
 (hs:∀ (p:Option Addr) (cap:Nat) (w:World),Calls P f #[.slice p 0 cap] w fun e w'=>e=.returned (.slice p 0 cap)∧w'=w) :
 C P G base f [.sl k v 0 z 0 lim] ⟨t,o⟩ fun r σ'=>r=.sl k v 0 z 0 lim∧σ'=⟨t,o⟩:=by
 intro I ρ w xs hR hb hc
 have hx1:xs.size=1:=hc.1.symm
 obtain ⟨x,rfl⟩:∃ x,xs=#[x]:=⟨xs[0],by
  apply Array.ext
  ·simp [hx1]
  ·intro j h1 h2
   have:j=0:=by omega
   subst this; rfl⟩
 have hv:=hc.2 0 _ x rfl rfl
 have hsome:∃ p cap,x=.slice p 0 cap:=by
  generalize hu:V.sl k v 0 z 0 lim=u at hv
  cases hv with
  | sl _ _ _ _ _ _ _ b o e cap h1 _ _ _=>cases hu; exact ⟨_,_,rfl⟩
  | slN=>exact ⟨_,_,rfl⟩
  | _=>cases hu
 obtain ⟨p,cap,rfl⟩:=hsome
 refine (hs p cap w).mono fun e w' ⟨h1,h2⟩=>?_
 subst h2
 exact ⟨.sl k v 0 z 0 lim,_,I,ρ,_,h1,hv,hR,Step.refl _ _ _ _ _,hb,rfl,rfl⟩
abbrev One:={x:Value // one x}
instance:Inhabited One:=⟨⟨.bool false,rfl⟩⟩
theorem wp_W {n base:Nat} {M:Nat→Bool} {dd:Nat→List Nat} {c:Code} {ac:AC} (hc:Xd P n M dd c=some ac) {fr:Fr} {σ:H} {Qa:AE→Fr→H→Prop} (h:W P G n base ac fr σ Qa)
 {Q:Exit→Act→World→Prop} {I:Imm} {ρ:Names} {w:World} {a:Act} (hR:Rel G I ρ σ w) (hF:FR I ρ n fr a) (hb:base≤σ.o.length)
 (k:∀ e I' ρ' fr' σ' a' w',Rel G I' ρ' σ' w'→FR I' ρ' n fr' a'→Step base I ρ σ w I' ρ' σ' w'→base≤σ'.o.length→Qa e fr' σ'→Q (AE.toExit e) a' w'):c.wp P Q a w :=
 wp_mono (wpIn_wide.1 (h c M dd hc I ρ w a hR hF hb Fence.wide (.inl rfl) 0)) fun e a' w' ⟨ae,I',ρ',fr',σ',he,q1,q2,q3,q4,q5⟩=>he▸k ae I' ρ' fr' σ' a' w' q1 q2 q3 q4 q5
theorem VR_two {I:Imm} {ρ:Names} (h1:VR I ρ a x) (h2:VR I ρ b y):VR I ρ (.tup [a,b]) (.tuple #[x,y]) :=
 .tup _ _ _ rfl fun j v z hv hz=>by
  match j,hv,hz with
  | 0,hv,hz=>cases hv; cases hz; exact h1
  | 1,hv,hz=>cases hv; cases hz; exact h2
  | n+2,hv,hz=>simp at hv
theorem lit_of (T:Array Value):T=((List.range T.size).map fun j=>T.getD j undef).toArray:=by
 apply Array.ext
 ·simp
 ·intro j h1 h2
  simp [Array.getD,h1]
variable {fr0:Fr}
theorem XZ {α:Type} (l:List α) {n base:Nat} {x:AC} {s:List KI} {Q:AE→Fr→H→Prop} (J:Nat→Fr→H→Prop) (E:AE→Fr→H→Prop) {σ0:H} (h0:J 0 fr0 σ0)
 (round:∀ i a,l[i]?=some a→∀ fr σ,J i fr σ→W P G n base x fr σ (ZB (fun fr σ=>∃ fr' σ',Shift G n base fr σ fr' σ'∧J (i+1) fr' σ') E))
 (done:∀ i,i=l.length→∀ fr σ,J i fr σ→W P G n base x fr σ (ZB (fun _ _=>False) E))
 (after:∀ e fr σ,E e fr σ→sem P G n base Q s e fr σ):sem P G n base Q (.ac (.loop x)::s) .nrm fr0 σ0:=by
 refine QX (fun m fr σ=>∃ i,i≤l.length∧m=l.length - i∧J i fr σ) E (m0:=l.length) ⟨0,Nat.zero_le _,rfl,h0⟩ (fun m fr σ hJ=>?_) after
 obtain ⟨i,hi,rfl,hJ⟩:=hJ
 rcases Nat.lt_or_ge i l.length with hlt | hge
 ·refine (round i _ (List.getElem?_eq_getElem hlt) fr σ hJ).conseq fun e fr σ h=>?_
  cases e with
  | nrm=>obtain ⟨fr',σ',h1,h2⟩:=h; exact ⟨l.length - (i+1),fr',σ',by omega,h1,i+1,by omega,rfl,h2⟩
  | ex id=>exact h
  | ret=>exact h
 ·have:i=l.length:=by omega
  refine (done i this fr σ hJ).conseq fun e fr σ h=>?_
  cases e with
  | nrm=>exact h.elim
  | ex id=>exact h
  | ret=>exact h
theorem Y7 (k:Nat) {n base:Nat} {x:AC} {s:List KI} {Q:AE→Fr→H→Prop} (J:Nat→Fr→H→Prop) (E:AE→Fr→H→Prop) {σ0:H} (h0:J 0 fr0 σ0)
 (round:∀ i,i<k→∀ fr σ,J i fr σ→W P G n base x fr σ (ZB (fun fr σ=>∃ fr' σ',Shift G n base fr σ fr' σ'∧J (i+1) fr' σ') E))
 (done:∀ i,i=k→∀ fr σ,J i fr σ→W P G n base x fr σ (ZB (fun _ _=>False) E))
 (after:∀ e fr σ,E e fr σ→sem P G n base Q s e fr σ):sem P G n base Q (.ac (.loop x)::s) .nrm fr0 σ0 :=
 XZ (List.range k) J E h0 (fun i a ha fr σ hJ=>round i (by simpa using (List.getElem?_eq_some_iff.1 ha).1) fr σ hJ) (fun i hi fr σ hJ=>done i (by simpa using hi) fr σ hJ) after
theorem QO {n base:Nat} {id:Nat} {s:List KI} {Q:AE→Fr→H→Prop} {fr:Fr} {σ:H} (l:Fr) (h:Qfh fr l) (f:Nat) (k:run P G n base Q f (.ac c::s) .nrm l σ):sem P G n base Q (.blk id::.ac c::s) (.ex id) fr σ:=by
 show (if id=id then sem P G n base Q (.ac c::s) .nrm fr σ else sem P G n base Q (.ac c::s) (.ex id) fr σ)
 rw [if_pos rfl]
 exact QgA l h (Qc f k)
theorem QhK {n base:Nat} {id:Nat} {s:List KI} {Q:AE→Fr→H→Prop} {fr:Fr} {σ:H} (l:Fr) (h:Qfh fr l) (k:sem P G n base Q (.ac c::s) .nrm l σ):sem P G n base Q (.blk id::.ac c::s) (.ex id) fr σ:=QO l h 0 k
theorem QrT {n base:Nat} {id j:Nat} {s:List KI} {Q:AE→Fr→H→Prop} {fr:Fr} {σ:H} (l:Fr) (h:Qfh fr l) (f:Nat) (k:run P G n base Q f (.ac c::s) .nrm l σ):sem P G n base Q (.blk id::.blk j::.ac c::s) (.ex id) fr σ:=by
 show (if id=id then sem P G n base Q (.blk j::.ac c::s) .nrm fr σ else sem P G n base Q (.blk j::.ac c::s) (.ex id) fr σ)
 rw [if_pos rfl]
 exact QgA l h (Qc f k)
theorem Qku {f:FuncId} {args:List V} {X:V} (h:∀ t,C P G 0 f args ⟨t,[]⟩ fun u σ=>(Qd u=true∧Wk u X)∨∃ k v' T cs,σ.o[k]?=some (some (.arr v' T cs))∧Qb cs=true∧Qd (X3 k v' cs u)=true∧Wk (X3 k v' cs u) X) (hX:Qd X=true):Pure P G f args fun u=>u=X:=by
 intro t
 refine QfG (Q:=fun u _=>Qd u=true∧Wk u X) (Y6 (h t) fun u σ hu=>?_) fun u σ hu=>⟨X,hu.2,hX,rfl⟩
 rcases hu with hu | ⟨k,v',T,cs,h1,h2,h3,h4⟩
 ·exact .inl hu
 ·exact .inr ⟨k,v',T,cs,Nat.zero_le _,h1,h2,h3,h4⟩
theorem Qez {w sz:Nat} {cs:List V} (h:∀ u∈cs,u.cells=[u]):X3 k w cs (.sl k w 0 1 cs.length none)=.lst 1 cs false:=by
 simp [X3,Qbc]
end Go.Am
namespace Go.Am
open Go Go.RowKit
variable {P:Program} {G:Nat→Option V}
mutual
def bare:V→Bool
 | .int ..=>true
 | .bool _=>true
 | .str _=>true
 | .val _=>true
 | .ptr ..=>true
 | .sl ..=>true
 | .mp ..=>true
 | .lst _ [] _=>true
 | .agg l=>Qo6 l
 | .tup l=>Qo6 l
 | _=>false
def Qo6:List V→Bool
 | []=>true
 | v::l=>bare v&&Qo6 l
end
theorem QfA:∀ {l:List V},Qo6 l=true→∀ (j:Nat) (v:V),l[j]?=some v→bare v=true
 | [],_,j,v,h=>by simp at h
 | u::l,hs,j,v,h=>by
   simp only [Qo6,Bool.and_eq_true] at hs
   cases j with
   | zero=>simp at h; subst h; exact hs.1
   | succ j=>exact QfA hs.2 j v (by simpa using h)
theorem VR.bare {I:Imm} {ρ:Names} {v:V} {x:Value} (h:VR I ρ v x):bare v=true→∀ I',VR I' ρ v x:=by
 induction h with
 | int=>intros; exact .int _ _ _
 | bool=>intros; exact .bool _ _
 | str=>intros; exact .str _ _
 | val=>intros; exact .val _ _
 | ptr _ _ _ _ _ _ _ h=>intros; exact .ptr _ _ _ _ _ _ _ h
 | sl _ _ _ _ _ _ _ _ _ _ _ h h1 h2 h3=>intros; exact .sl _ _ _ _ _ _ _ _ _ _ _ h h1 h2 h3
 | slN _ _ _ _ _ _ h h1=>intros; exact .slN _ _ _ _ _ _ h h1
 | mp _ _ _ _ _ _ h=>intros; exact .mp _ _ _ _ _ _ h
 | lstN _ _ _ _ _ h=>intros; exact .lstN _ _ _ _ _ h
 | lst _ _ l _ _ _ _ _ h0 =>
   intro hs
   cases l with
   | nil=>exact absurd rfl h0
   | cons=>simp [Am.bare] at hs
 | agg _ l cs hl _ ih =>
   intro hs I'
   simp only [Am.bare] at hs
   exact .agg _ _ _ hl fun j v x h1 h2=>ih j v x h1 h2 (QfA hs j v h1) I'
 | tup _ l cs hl _ ih =>
   intro hs I'
   simp only [Am.bare] at hs
   exact .tup _ _ _ hl fun j v x h1 h2=>ih j v x h1 h2 (QfA hs j v h1) I'
 | _=>intro hs; simp [Am.bare] at hs
def QBk:Option Ob→Bool
 | none=>true
 | some (.arr _ _ cs)=>Qo6 cs
 | _=>false
theorem ObR.bare {I I':Imm} {ρ:Names} {w:World} {n:Nat} {ob:Ob} (h:ObR I ρ w n ob) (hb:QBk (some ob)=true):ObR I' ρ w n ob:=by
 cases ob with
 | arr v T cs =>
   simp only [QBk] at hb
   rcases h with h | ⟨b,o,e,c,lo,hi,h1,h2,h3,h4,h5,h6⟩
   ·exact .inl h
   ·exact .inr ⟨b,o,e,c,lo,hi,h1,h2,h3,h4,h5,fun j v hj=>let ⟨x,a,q,d⟩:=h6 j v hj; ⟨x,a,q.bare (QfA hb j v hj) I',d⟩⟩
 | _=>simp [QBk] at hb
end Go.Am
namespace Go.Am
open Go
section
variable (P:Program) (G:Nat→Option V)
end
variable {P:Program} {G:Nat→Option V}
end Go.Am
namespace Go.Am
open Go
variable {P:Program} {G:Nat→Option V}
end Go.Am
namespace Go.Am
open Go
end Go.Am
namespace Go.Am
variable {P:Program} {G:Nat→Option V}
end Go.Am
