/- A logic of programs over abstract values: joined texts. -/
import Derived.Test.YtoeicjlflmmmcaaGreatDoorAmC
import Derived.Below
import Derived.ChangeSame
import Derived.ChangeArms
import Derived.WideKeyArgs
import Derived.RowKit
import Derived.OpenShut
import Derived.Sort.Grow
import Derived.Deep.Draws
import Derived.Lib.LaidTab
import Derived.Lib.ItoaLen
import Derived.Lib.ItoaNum
import Derived.Stop.LaidErr
import Derived.Sort.Row
import Derived.RangeFuncNested
import Derived.RangeFuncRecord
import Derived.RangeFuncIn
import Derived.RangeFuncSeq
import Derived.RangeFuncOwn
import Derived.RangeFuncLeaves
namespace Go.Am
open Go
variable {P:Program} {G:Nat→Option V}
def Qbb (K:Fr→H→Prop) (Q:AE→Fr→H→Prop):AE→Fr→H→Prop
 | .nrm,fr,σ=>K fr σ
 | e,fr,σ=>Q e fr σ
def wc (P:Program) (G:Nat→Option V) (n base:Nat):AC→Fr→H→(AE→Fr→H→Prop)→Prop
 | .skip,fr,σ,Q=>Q .nrm fr σ
 | .reg t dead,fr,σ,Q=>wt P G n base t fr σ fun fr σ=>Q .nrm (fdel fr dead) σ
 | .seq a b,fr,σ,Q=>wc P G n base a fr σ (Qbb (fun fr σ=>wc P G n base b fr σ Q) Q)
 | .cond c a b,fr,σ,Q=>condK (arg G fr c) (wc P G n base a fr σ Q) (wc P G n base b fr σ Q)
 | .block id a,fr,σ,Q=>wc P G n base a fr σ (QA0 id Q)
 | .loop a,fr,σ,Q=>W P G n base (.loop a) fr σ Q
 | .exit id,fr,σ,Q=>Q (.ex id) fr σ
 | .ret,fr,σ,Q=>Q .ret fr σ
 | .bad,_,_,_=>False
theorem condK.mono {c:V} {A B A' B':Prop} (h:condK c A B) (ha:A→A') (hb:B→B'):condK c A' B':=by
 unfold condK at *
 split at h
 ·exact ⟨fun e=>ha (h.1 e),fun e=>hb (h.2 e)⟩
 ·exact h
def Shift (G:Nat→Option V) (n base:Nat) (fr:Fr) (σ:H) (fr':Fr) (σ':H):Prop :=
 ∀ I ρ w a,Rel G I ρ σ w→FR I ρ n fr a→base≤σ.o.length→∃ I' ρ',Rel G I' ρ' σ' w∧FR I' ρ' n fr' a∧Step base I ρ σ w I' ρ' σ' w∧base≤σ'.o.length
theorem Shift.refl (n base:Nat) (fr:Fr) (σ:H):Shift G n base fr σ fr σ:=fun I ρ w a hR hF hb=>⟨I,ρ,hR,hF,Step.refl _ _ _ _ _,hb⟩
theorem Shift.trans {n base:Nat} {fr fr' fr'':Fr} {σ σ' σ'':H} (h:Shift G n base fr σ fr' σ') (k:Shift G n base fr' σ' fr'' σ''):Shift G n base fr σ fr'' σ'':=fun I ρ w a hR hF hb=>by
 obtain ⟨I1,ρ1,h1,h2,h3,h4⟩:=h I ρ w a hR hF hb
 obtain ⟨I2,ρ2,k1,k2,k3,k4⟩:=k I1 ρ1 w a h1 h2 h4
 exact ⟨I2,ρ2,k1,k2,h3.trans k3,k4⟩
variable {c:AC}
theorem QyK {n base:Nat} {fr fr':Fr} {σ σ':H} {Q:AE→Fr→H→Prop} (s:Shift G n base fr σ fr' σ') (h:W P G n base c fr' σ' Q):W P G n base c fr σ Q:=by
 intro code M dd hc I ρ w a hR hF hb F hM mm
 obtain ⟨I1,ρ1,h1,h2,h3,h4⟩:=s I ρ w a hR hF hb
 exact wpIn_mono (h code M dd hc I1 ρ1 w a h1 h2 h4 F hM mm) fun _ _ _ hp=>hp.after h3
theorem W_post {n base:Nat} {fr:Fr} {σ:H} {Q:AE→Fr→H→Prop} (h:W P G n base c fr σ fun e fr σ=>∃ fr' σ',Shift G n base fr σ fr' σ'∧Q e fr' σ'):W P G n base c fr σ Q:=by
 intro code M dd hc I ρ w a hR hF hb F hM mm
 refine wpIn_mono (h code M dd hc I ρ w a hR hF hb F hM mm) fun e a' w' hp=>?_
 obtain ⟨ae,I',ρ',fr',σ',he,g1,g2,g3,g4,fr2,σ2,hs,hq⟩:=hp
 obtain ⟨I2,ρ2,k1,k2,k3,k4⟩:=hs I' ρ' w' a' g1 g2 g4
 exact ⟨ae,I2,ρ2,fr2,σ2,he,k1,k2,g3.trans k3,k4,hq⟩
theorem W_inv {n base:Nat} {x:AC} {Q:AE→Fr→H→Prop} (J:Nat→Fr→H→Prop)
 (round:∀ m fr σ,J m fr σ→W P G n base x fr σ (Qbb (fun fr σ=>∃ m' fr' σ',m'<m∧Shift G n base fr σ fr' σ'∧J m' fr' σ') Q)) {m0:Nat} {fr0:Fr} {σ0:H} (h0:J m0 fr0 σ0) :
 W P G n base (.loop x) fr0 σ0 Q:=by
 refine QIH (α:=Nat × Fr × H) (fun s=>s.2.1) (fun s=>s.2.2) (fun s=>s.1) (fun s=>J s.1 s.2.1 s.2.2) (fun s hs=>?_) (m0,fr0,σ0) h0
 refine W_post ((round s.1 s.2.1 s.2.2 hs).conseq fun e fr σ he=>?_)
 cases e with
 | nrm =>
   obtain ⟨m',fr',σ',h1,h2,h3⟩:=he
   exact ⟨fr',σ',h2,(m',fr',σ'),h3,h1,fun _ _ _ h=>h,rfl⟩
 | ex id=>exact ⟨fr,σ,Shift.refl _ _ _ _,he⟩
 | ret=>exact ⟨fr,σ,Shift.refl _ _ _ _,he⟩
def rounds (P:Program) (G:Nat→Option V) (n base:Nat) (x:AC) (Q:AE→Fr→H→Prop):Nat→Fr→H→Prop
 | 0,_,_=>False
 | k+1,fr,σ=>wc P G n base x fr σ (Qbb (fun fr σ=>rounds P G n base x Q k fr σ) Q)
def endK (G:Nat→Option V) (res:List RV) (Q:V→H→Prop):AE→Fr→H→Prop
 | .ex _,_,_=>False
 | _,fr,σ=>Qq7 G fr σ res fun l=>Q (QhU l) σ
variable {A:AF} {T:Nat→Option AF}
theorem Qo (hT:Qe P T) {f:Nat} (hf:T f=some A) {base:Nat} {args:List V} {σ:H} {Q:V→H→Prop} (hn:args.length≤A.n)
 (h:W P G A.n base A.body (QzR 0 args) σ (endK G A.res Q)):C P G base f args σ Q:=by
 obtain ⟨_,M,dd,h2⟩:=hT f A hf
 refine QIN h2 hn (h.conseq fun e fr σ he=>?_)
 cases e with
 | ex id=>exact he.elim
 | nrm=>exact he
 | ret=>exact he
def wk (P:Program) (G:Nat→Option V) (n base:Nat):Nat→AC→Fr→H→(AE→Fr→H→Prop)→Prop
 | 0,c,fr,σ,Q=>W P G n base c fr σ Q
 | k+1,.seq a b,fr,σ,Q=>wc P G n base a fr σ (Qbb (fun fr σ=>wk P G n base k b fr σ Q) Q)
 | _+1,c,fr,σ,Q=>wc P G n base c fr σ Q
theorem QtL (hT:Qe P T) {f:Nat} (hf:T f=some A) {base:Nat} {first args cap:List V} {σ:H} {Q:V→H→Prop} (h:C P G base f (first++args++cap) σ Q):CV P G base (.fn (.func f) first cap) args σ Q :=
 ⟨(hT f A hf).1,h⟩
section rules
variable {n base:Nat} {fr:Fr} {σ:H} {Q:AE→Fr→H→Prop}
@[go_sem ↓] theorem wc_skip:wc P G n base .skip fr σ Q=Q .nrm fr σ:=rfl
@[go_sem ↓] theorem wc_reg {t dead}:wc P G n base (.reg t dead) fr σ Q=wt P G n base t fr σ fun fr σ=>Q .nrm (fdel fr dead) σ:=rfl
@[go_sem ↓] theorem wc_seq {a b}:wc P G n base (.seq a b) fr σ Q=wc P G n base a fr σ (Qbb (fun fr σ=>wc P G n base b fr σ Q) Q):=rfl
@[go_sem ↓] theorem wc_cond {c a b}:wc P G n base (.cond c a b) fr σ Q=condK (arg G fr c) (wc P G n base a fr σ Q) (wc P G n base b fr σ Q):=rfl
@[go_sem ↓] theorem wc_block {id a}:wc P G n base (.block id a) fr σ Q=wc P G n base a fr σ (QA0 id Q):=rfl
@[go_sem ↓] theorem wc_loop {a}:wc P G n base (.loop a) fr σ Q=W P G n base (.loop a) fr σ Q:=rfl
@[go_sem ↓] theorem wc_exit {id}:wc P G n base (.exit id) fr σ Q=Q (.ex id) fr σ:=rfl
@[go_sem ↓] theorem wc_ret:wc P G n base .ret fr σ Q=Q .ret fr σ:=rfl
@[go_sem ↓] theorem wc_bad:wc P G n base .bad fr σ Q=False:=rfl
@[go_sem ↓] theorem seqQ_nrm {K:Fr→H→Prop}:Qbb K Q .nrm fr σ=K fr σ:=rfl
@[go_sem ↓] theorem seqQ_ex {K:Fr→H→Prop} {id}:Qbb K Q (.ex id) fr σ=Q (.ex id) fr σ:=rfl
@[go_sem ↓] theorem seqQ_ret {K:Fr→H→Prop}:Qbb K Q .ret fr σ=Q .ret fr σ:=rfl
@[go_sem ↓] theorem blkK_nrm {id}:QA0 id Q .nrm fr σ=Q .nrm fr σ:=rfl
@[go_sem ↓] theorem blkK_ret {id}:QA0 id Q .ret fr σ=Q .ret fr σ:=rfl
@[go_sem ↓] theorem blkK_ex {id id'}:QA0 id Q (.ex id') fr σ=if id'=id then Q .nrm fr σ else Q (.ex id') fr σ:=rfl
@[go_sem ↓] theorem rounds_succ {x k}:rounds P G n base x Q (k+1) fr σ=wc P G n base x fr σ (Qbb (fun fr σ=>rounds P G n base x Q k fr σ) Q):=rfl
@[go_sem ↓] theorem endK_nrm {res KV}:endK G res KV .nrm fr σ=Qq7 G fr σ res fun l=>KV (QhU l) σ:=rfl
@[go_sem ↓] theorem endK_ret {res KV}:endK G res KV .ret fr σ=Qq7 G fr σ res fun l=>KV (QhU l) σ:=rfl
@[go_sem ↓] theorem wk_zero {c}:wk P G n base 0 c fr σ Q=W P G n base c fr σ Q:=by simp [wk]
@[go_sem ↓] theorem wk_seq {k a b}:wk P G n base (k+1) (.seq a b) fr σ Q=wc P G n base a fr σ (Qbb (fun fr σ=>wk P G n base k b fr σ Q) Q):=rfl
@[go_sem ↓] theorem wk_reg {k t dead}:wk P G n base (k+1) (.reg t dead) fr σ Q=wt P G n base t fr σ fun fr σ=>Q .nrm (fdel fr dead) σ:=rfl
@[go_sem ↓] theorem wk_cond {k c a b}:wk P G n base (k+1) (.cond c a b) fr σ Q=condK (arg G fr c) (wc P G n base a fr σ Q) (wc P G n base b fr σ Q):=rfl
@[go_sem ↓] theorem wk_block {k id a}:wk P G n base (k+1) (.block id a) fr σ Q=wc P G n base a fr σ (QA0 id Q):=rfl
@[go_sem ↓] theorem wk_loop {k a}:wk P G n base (k+1) (.loop a) fr σ Q=W P G n base (.loop a) fr σ Q:=rfl
@[go_sem ↓] theorem wk_exit {k id}:wk P G n base (k+1) (.exit id) fr σ Q=Q (.ex id) fr σ:=rfl
@[go_sem ↓] theorem wk_ret {k}:wk P G n base (k+1) .ret fr σ Q=Q .ret fr σ:=rfl
@[go_sem ↓] theorem wk_skip {k}:wk P G n base (k+1) .skip fr σ Q=Q .nrm fr σ:=rfl
end rules
end Go.Am
namespace Go.Am
open Go
variable {P:Program} {G:Nat→Option V} {I:Imm} {ρ:Names} {σ:H} {w:World} {n base:Nat} {fr:Fr}
theorem Shift.frame {fr':Fr} (h:∀ t,Qd fr' t=Qd fr t∨Qd fr' t=.any):Shift G n base fr σ fr' σ:=fun I ρ w a hR hF hb =>
 ⟨I,ρ,hR,⟨hF.defers,hF.size,fun t=>by rcases h t with e | e <;> rw [e]; exact hF.vals t; exact .any _ _⟩,Step.refl _ _ _ _ _,hb⟩
theorem Rel.drop (R:Rel G I ρ σ w) {o':List (Option Ob)} {t':Nat} (ht:σ.t≤t') (h:∀ (n:Nat) (ob:Ob),o'[n]?=some (some ob)→σ.o[n]?=some (some ob)):Rel G I ρ ⟨t',o'⟩ w∧Step base I ρ σ w I ρ ⟨t',o'⟩ w:=by
 have hblk:∀ n b,blk ρ ⟨t',o'⟩ n=some b→blk ρ σ n=some b:=fun n b e=>by
  unfold blk at e ⊢
  split at e
  ·rename_i ob ho
   rw [h n ob ho]
   exact e
  ·cases e
 refine ⟨⟨fun n ob ho=>R.objs n ob (h n ob ho),fun n v l hl=>Nat.lt_of_lt_of_le (R.fresh n v l hl) ht,fun n m b e e'=>R.sep n m b (hblk n b e) (hblk m b e'),R.imm,fun n b e o=>R.immsep n b (hblk n b e) o,R.globs⟩,
  ⟨rfl,rfl,rfl,Nat.le_refl _,.refl _,.refl _,ht,fun _ _ _ hl=>.inl hl,fun _ _ _=>rfl,fun n b hn e=>.inr ⟨n,hn,hblk n b e⟩,fun b o h' h''=>absurd h' h'',fun n hn=>?_⟩⟩
 cases hn':o'[n]? with
 | none=>exact .inr fun ob e=>by simp [hn'] at e
 | some x=>cases x with
   | none=>exact .inr fun ob e=>by simp [hn'] at e
   | some ob=>exact .inl (by simp [hn',h n ob hn'])
def Zl:List (Option Ob)→List (Option Ob)→Prop
 | [],_=>True
 | none::r,l=>Zl r l.tail
 | some ob::r,l=>l.head?=some (some ob)∧Zl r l.tail
theorem QhP:∀ {o' o:List (Option Ob)},Zl o' o→∀ (n:Nat) (ob:Ob),o'[n]?=some (some ob)→o[n]?=some (some ob)
 | [],_,_,n,ob,h=>by simp at h
 | none::r,l,hs,n,ob,h=>by
   cases n with
   | zero=>simp at h
   | succ n =>
     have:=QhP (o':=r) (o:=l.tail) hs n ob (by simpa using h)
     cases l with
     | nil=>simp at this
     | cons x l=>simpa using this
 | some x::r,l,hs,n,ob,h=>by
   cases l with
   | nil=>simp [Zl] at hs
   | cons y l =>
     simp only [Zl,List.head?_cons,Option.some.injEq,List.tail_cons] at hs
     cases n with
     | zero=>simp at h; subst h; simp [hs.1]
     | succ n=>simpa using QhP (o':=r) (o:=l) hs.2 n ob (by simpa using h)
theorem Shift.drop {o':List (Option Ob)} {t':Nat} (h:Zl o' σ.o) (ht:σ.t≤t') (hb:base≤o'.length):Shift G n base fr σ fr ⟨t',o'⟩:=fun I ρ w a hR hF _ =>
 let ⟨h1,h2⟩:=hR.drop (base:=base) ht (QhP h)
 ⟨I,ρ,h1,hF,h2,hb⟩
def QjU (s len:Nat) (cs:List V):List V:=if s=1 then cs.take len else Qbm s len cs
mutual
def Zw (k v:Nat) (cs:List V):V→V
 | .sl k' v' off s len lim=>if k'=k∧v'=v then (if off+len * s≤cs.length∧s≠0 then .lst s (QjU s len (cs.drop off)) false else .any) else .sl k' v' off s len lim
 | .ptr k' v' off=>if k'=k∧v'=v then (if cs=[] then .any else .ref (.agg cs) off) else .ptr k' v' off
 | .agg l=>.agg (QqK k v cs l)
 | .tup l=>.tup (QqK k v cs l)
 | .fn f a b=>.fn f (QqK k v cs a) (QqK k v cs b)
 | .iface t x=>.iface t (Zw k v cs x)
 | x=>x
def QqK (k v:Nat) (cs:List V):List V→List V
 | []=>[]
 | u::l=>Zw k v cs u::QqK k v cs l
end
theorem Qib {k v:Nat} {cs:List V}:∀ l,QqK k v cs l=l.map (Zw k v cs)
 | []=>by simp [QqK]
 | u::l=>by simp [QqK,Qib l]
theorem QjD (s len:Nat) (cs:List V) (h:len * s≤cs.length):(QjU s len cs).length=len:=by
 unfold QjU
 split
 ·rename_i e; subst e; simp; omega
 ·exact (Qih len cs).1
variable {cs:List V}
theorem Qo4 {s len:Nat} (h:len * s≤cs.length) (h1:∀ v∈cs,v.cells=[v]) {j:Nat} {v:V} (hj:(QjU s len cs)[j]?=some v):v.cells=(cs.drop (j * s)).take s:=by
 unfold QjU at hj
 split at hj
 ·rename_i e
  subst e
  rw [List.getElem?_take] at hj
  split at hj
  ·rename_i hlt
   rw [h1 v (List.mem_of_getElem? hj)]
   obtain ⟨hl,he⟩:=List.getElem?_eq_some_iff.1 hj
   rw [Nat.mul_one]
   rw [List.drop_eq_getElem_cons hl,List.take_succ_cons,List.take_zero,he]
  ·cases hj
 ·rw [(Qih len cs).2 j v hj]
  rfl
def QBb (I:Imm) (ρ:Names) (k v:Nat) (cs:List V):Prop :=
 (∀ u∈cs,u.cells=[u])∧∀ b o e,ρ k v=some (.at b o e)→∃ f:Nat→Value,∀ (j:Nat) (u:V),cs[j]?=some u→I b (o+j)=some (f j)∧VR I noNames u (f j)
theorem VR.frz {k v:Nat} (h:QBb I ρ k v cs) {u:V} {x:Value} (hv:VR I ρ u x):VR I ρ (Zw k v cs u) x:=by
 have main:∀ {ρ':Names} {u:V} {x:Value},VR I ρ' u x→ρ'=ρ→VR I ρ' (Zw k v cs u) x:=by
  intro ρ' u x hv
  induction hv with
  | agg ρ' l xs hl _ ih =>
    intro e
    simp only [Zw,Qib]
    refine .agg _ _ _ (by simpa using hl) fun j u x h1 h2=>?_
    simp only [List.getElem?_map,Option.map_eq_some_iff] at h1
    obtain ⟨u0,h1,rfl⟩:=h1
    exact ih j u0 x h1 h2 e
  | tup ρ' l xs hl _ ih =>
    intro e
    simp only [Zw,Qib]
    refine .tup _ _ _ (by simpa using hl) fun j u x h1 h2=>?_
    simp only [List.getElem?_map,Option.map_eq_some_iff] at h1
    obtain ⟨u0,h1,rfl⟩:=h1
    exact ih j u0 x h1 h2 e
  | fn ρ' f l xs m ys hl hm _ _ ih1 ih2 =>
    intro e
    simp only [Zw,Qib]
    refine .fn _ _ _ _ _ _ (by simpa using hl) (by simpa using hm) (fun j u x h1 h2=>?_) (fun j u x h1 h2=>?_)
    ·simp only [List.getElem?_map,Option.map_eq_some_iff] at h1
     obtain ⟨u0,h1,rfl⟩:=h1
     exact ih1 j u0 x h1 h2 e
    ·simp only [List.getElem?_map,Option.map_eq_some_iff] at h1
     obtain ⟨u0,h1,rfl⟩:=h1
     exact ih2 j u0 x h1 h2 e
  | iface ρ' t x y _ ih=>intro e; simp only [Zw]; exact .iface _ _ _ _ (ih e)
  | ptr ρ' m u off b o e hm =>
    intro e'
    subst e'
    simp only [Zw]
    split
    ·rename_i hk
     obtain ⟨rfl,rfl⟩:=hk
     split
     ·exact .any _ _
     ·obtain ⟨f,hf⟩:=h.2 b o e hm
      exact .ref _ _ _ b o f (fun j c hc=>(hf j c hc).1) (fun j c hc=>(hf j c hc).2)
    ·exact .ptr _ _ _ _ _ _ _ hm
  | sl ρ' m u off sz len lim b o e cap hm hlen h3 h4 =>
    intro e'
    subst e'
    simp only [Zw]
    split
    ·rename_i hk
     obtain ⟨rfl,rfl⟩:=hk
     split
     ·rename_i hb
      have hrl:=QjD sz len (cs.drop off) (by simp; omega)
      by_cases h0:len=0
      ·subst h0
       have:QjU sz 0 (cs.drop off)=[]:=List.eq_nil_of_length_eq_zero hrl
       rw [this]
       exact .lstN _ _ _ _ _ fun h=>by cases h
      ·obtain ⟨f,hf⟩:=h.2 b o e hm
       have hdl:len * sz≤(cs.drop off).length:=by simp; omega
       have h1':∀ v∈cs.drop off,v.cells=[v]:=fun v hv=>h.1 v (List.mem_of_mem_drop hv)
       have hcell:∀ (j:Nat) (u:V),(QjU sz len (cs.drop off))[j]?=some u→∀ (i:Nat) (c:V),u.cells[i]?=some c→cs[off+j * sz+i]?=some c:=fun j u hj i c hc=>by
        rw [Qo4 hdl h1' hj,List.getElem?_take] at hc
        split at hc
        ·rw [List.getElem?_drop,List.getElem?_drop] at hc
         rw [← hc]; congr 1; omega
        ·cases hc
       suffices hs:VR I ρ' (.lst sz (QjU sz len (cs.drop off)) false) (.slice (some ⟨b,o+off,none⟩) (QjU sz len (cs.drop off)).length cap) by rw [hrl] at hs; exact hs
       refine .lst _ _ _ _ b (o+off) cap (fun j i=>f (off+j * sz+i)) (fun e=>?_) (by rw [hrl]; exact hlen) (fun h=>by cases h) (fun j u hj=>?_) (fun j u hj i c hc=>?_) (fun j u hj i c hc=>?_)
       ·rw [e] at hrl; simp at hrl; omega
       ·have hjl:j<len:=by rw [← hrl]; exact (List.getElem?_eq_some_iff.1 hj).1
        rw [Qo4 hdl h1' hj]
        simp only [List.length_take,List.length_drop]
        have:(j+1) * sz≤len * sz:=Nat.mul_le_mul_right _ hjl
        rw [Nat.succ_mul] at this
        omega
       ·have:=(hf _ c (hcell j u hj i c hc)).1
        rw [← this]; congr 1; omega
       ·exact (hf _ c (hcell j u hj i c hc)).2
     ·exact .any _ _
    ·exact .sl _ _ _ _ _ _ _ _ _ _ _ hm hlen h3 h4
  | slN ρ' m u sz lim a hm h3 =>
    intro e'
    subst e'
    simp only [Zw]
    split
    ·rename_i hk
     split
     ·rename_i hb
      have hrl:=QjD sz 0 (cs.drop 0) (by simp)
      rw [List.eq_nil_of_length_eq_zero hrl]
      exact .lstN _ _ _ _ _ fun h=>by cases h
     ·exact .any _ _
    ·exact .slN _ _ _ _ _ _ hm h3
  | any=>intro _; exact .any _ _
  | int=>intro _; exact .int _ _ _
  | bool=>intro _; exact .bool _ _
  | str=>intro _; exact .str _ _
  | val=>intro _; exact .val _ _
  | ref _ _ _ _ _ f h1 h2=>intro _; simp only [Zw]; exact .ref _ _ _ _ _ f h1 h2
  | lst _ _ _ _ _ _ _ f h0 h1 h2 h3 h4 h5=>intro _; simp only [Zw]; exact .lst _ _ _ _ _ _ _ f h0 h1 h2 h3 h4 h5
  | lstN _ _ _ _ _ h=>intro _; simp only [Zw]; exact .lstN _ _ _ _ _ h
  | mp _ _ _ _ _ _ h=>intro _; simp only [Zw]; exact .mp _ _ _ _ _ _ h
 exact main hv rfl
def Ob.mapV (g:V→V):Ob→Ob
 | .arr v T cs=>.arr v T (cs.map g)
 | .map v es=>.map v (es.map fun p=>(p.1,g p.2))
 | .it v a b c s=>.it v a b c s
theorem Ob.mapV_ver (g:V→V) (ob:Ob):(ob.mapV g).ver=ob.ver:=by cases ob <;> rfl
theorem ObR.mapV {m:Nat} {ob:Ob} {g:V→V} (hg:∀ u x,VR I ρ u x→VR I ρ (g u) x) (h:ObR I ρ w m ob):ObR I ρ w m (ob.mapV g):=by
 cases ob with
 | arr v T cs =>
   rcases h with ⟨h1,h2⟩ | ⟨b,o,e,c,lo,hi,h1,h2,h3,h4,h5,h6⟩
   ·exact .inl ⟨h1,by simp [h2]⟩
   ·refine .inr ⟨b,o,e,c,lo,hi,h1,h2,by simpa using h3,h4,h5,fun j u hu=>?_⟩
    simp only [List.getElem?_map,Option.map_eq_some_iff] at hu
    obtain ⟨u0,hu,rfl⟩:=hu
    obtain ⟨x,g1,g2,g3⟩:=h6 j u0 hu
    exact ⟨x,g1,hg _ _ g2,g3⟩
 | map v es =>
   obtain ⟨b,o,e,c,h1,h2,h3,h4,h5⟩:=h
   refine ⟨b,o,e,c,h1,h2,by simpa using h3,h4,fun j p x hp hx=>?_⟩
   simp only [List.getElem?_map,Option.map_eq_some_iff] at hp
   obtain ⟨p0,hp,rfl⟩:=hp
   exact ⟨(h5 j p0 x hp hx).1,hg _ _ (h5 j p0 x hp hx).2⟩
 | it v a b c s=>exact h
def Q6 (g:V→V):Nat→List (Option Ob)→List (Option Ob)
 | _,[]=>[]
 | 0,x::l=>x.map (Ob.mapV g)::Q6 g 0 l
 | k+1,x::l=>x::Q6 g k l
theorem QW (g:V→V):∀ k l,(Q6 g k l).length=l.length
 | 0,[]=>rfl
 | k+1,[]=>rfl
 | 0,x::l=>by simp [Q6,QW g 0 l]
 | k+1,x::l=>by simp [Q6,QW g k l]
theorem YX (g:V→V):∀ k l m,(Q6 g k l)[m]?=if m<k then l[m]? else l[m]?.map (Option.map (Ob.mapV g))
 | 0,[],m=>by simp [Q6]
 | k+1,[],m=>by simp [Q6]
 | 0,x::l,m=>by cases m with
   | zero=>simp [Q6]
   | succ m=>have:=YX g 0 l m; simp at this; simp [Q6,this]
 | k+1,x::l,m=>by cases m with
   | zero=>simp [Q6]
   | succ m=>have:=YX g k l m; simp [Q6,this]
theorem Rel.mapV (R:Rel G I ρ σ w) {g:V→V} (hg:∀ u x,VR I ρ u x→VR I ρ (g u) x):Rel G I ρ ⟨σ.t,Q6 g base σ.o⟩ w∧Step base I ρ σ w I ρ ⟨σ.t,Q6 g base σ.o⟩ w:=by
 have hob:∀ (m:Nat) (ob:Ob),(Q6 g base σ.o)[m]?=some (some ob)→∃ ob0:Ob,σ.o[m]?=some (some ob0)∧(ob=ob0∨ob=ob0.mapV g):=fun m ob h=>by
  rw [YX] at h
  split at h
  ·exact ⟨ob,h,.inl rfl⟩
  ·simp only [Option.map_eq_some_iff] at h
   obtain ⟨x,h1,y,h2,rfl⟩:=h
   subst h2
   exact ⟨y,h1,.inr rfl⟩
 have hblk:∀ m,blk ρ ⟨σ.t,Q6 g base σ.o⟩ m=blk ρ σ m:=fun m=>by
  unfold blk
  rw [YX]
  by_cases hm:m<base
  ·rw [if_pos hm]
  ·rw [if_neg hm]
   cases h:σ.o[m]? with
   | none=>simp
   | some x=>cases x with
     | none=>simp
     | some ob=>simp [Ob.mapV_ver]
 refine ⟨⟨fun m ob h=>?_,R.fresh,fun a b c e e'=>R.sep a b c (by rw [← hblk]; exact e) (by rw [← hblk]; exact e'),R.imm,fun m b e o=>R.immsep m b (by rw [← hblk]; exact e) o,R.globs⟩,
  ⟨rfl,rfl,rfl,Nat.le_refl _,.refl _,.refl _,Nat.le_refl _,fun _ _ _ h=>.inl h,fun _ _ _=>rfl,fun m b hm e=>.inr ⟨m,hm,by rw [← hblk]; exact e⟩,fun b o h h'=>absurd h h',fun m hm=>.inl (by rw [YX,if_pos hm])⟩⟩
 obtain ⟨ob0,h0,h1 | h1⟩:=hob m ob h
 ·rw [h1]; exact R.objs m _ h0
 ·rw [h1]; exact (R.objs m _ h0).mapV hg
theorem Qtt (g:V→V) (hg:g .any=.any):∀ (fr:Fr) (t:Nat),Qd (fr.map fun p=>(p.1,g p.2)) t=g (Qd fr t)
 | [],t=>by simp [Qd,hg]
 | (i,v)::r,t=>by
   simp only [List.map_cons,Qd]
   split
   ·rfl
   ·exact Qtt g hg r t
def Qpy (k v:Nat) (cs:List V) (fr:Fr):Fr:=fr.map fun p=>(p.1,Zw k v cs p.2)
theorem ZP {k v cs}:Qpy k v cs []=[]:=rfl
theorem Y4 {k v cs p fr}:Qpy k v cs (p::fr)=(p.1,Zw k v cs p.2)::Qpy k v cs fr:=rfl
theorem Shift.freeze {k v T:Nat} {cs:List V} (hbase:base≤k) (ho:σ.o[k]?=some (some (.arr v T cs))) (hn:Qc cs=true) :
 Shift G n base fr σ (Qpy k v cs fr) ⟨σ.t,Q6 (Zw k v cs) base (σ.o.set k none)⟩:=fun I ρ w a hR hF hb=>by
 obtain ⟨I',hle,h1,h2,h3⟩:=hR.freeze hbase ho hn
 have hc:∀ u∈cs,u.cells=[u]:=fun u hu=>by
  obtain ⟨j,hj⟩:=List.mem_iff_getElem?.1 hu
  rcases hR.objs k _ ho with ⟨_,h0⟩ | ⟨b,o,e,c,lo,hi,_,_,_,_,_,h6⟩
  ·rw [h0] at hu; cases hu
  ·obtain ⟨x,g1,g2,g3⟩:=h6 j u hj
   cases g2 <;> first | rfl | (simp [one,Value.oneCell'] at g3; done)
 have hF':QBb I' ρ k v cs:=⟨hc,h3⟩
 obtain ⟨k1,k2⟩:=Rel.mapV (base:=base) h1 (g:=Zw k v cs) (fun u x hu=>hu.frz hF')
 refine ⟨I',ρ,k1,⟨hF.defers,hF.size,fun t=>?_⟩,h2.trans k2,by rw [QW]; simpa using hb⟩
 unfold Qpy
 rw [Qtt _ (by simp [Zw])]
 exact VR.frz hF' ((hF.vals t).mono hle (Names.le.refl _))
theorem Shift.own {s z sz T:Nat} (hs:Qd fr s=.lst z [] true) (hlt:s<n):Shift G n base fr σ (QfT fr s (.sl σ.o.length σ.t 0 sz 0 none)) (σ.push (.arr σ.t T [])):=fun I ρ w a hR hF hb=>by
 obtain ⟨h1,h2⟩:=hR.nowhere (T:=T) (k:=σ.o.length) hb (σ':=σ.push (.arr σ.t T [])) (by simp [H.push]) (fun m hm=>by
  simp only [H.push,List.getElem?_append]
  split
  ·rfl
  ·have:m - σ.o.length≠0:=by omega
   rw [List.getElem?_eq_none (l:=σ.o) (by omega)]
   cases h:m - σ.o.length with
   | zero=>exact absurd h this
   | succ j=>rfl) rfl
 refine ⟨I,_,h1,⟨hF.defers,hF.size,fun t=>?_⟩,h2,by simp [H.push]; omega⟩
 rw [Qff]
 split
 ·rename_i e
  subst e
  have:=hF.vals s
  rw [hs] at this
  generalize a.tmps.getD s undef=x at this
  cases this with
  | lstN _ _ _ a cap h =>
    rw [h rfl]
    exact .slN _ _ _ _ _ _ (Names.add_self _ _ _ _) fun m h=>by cases h
  | lst _ _ _ _ _ _ _ f h0=>exact absurd rfl h0
 ·exact (hF.vals t).mono (Imm.le.refl _) h2.names
end Go.Am
namespace Go.Am
open Go
variable {P:Program} {G:Nat→Option V}
mutual
def V.ren (r:Nat→Nat):V→V
 | .ptr n v off=>.ptr (r n) v off
 | .sl n v off sz len lim=>.sl (r n) v off sz len lim
 | .mp n v=>.mp (r n) v
 | .agg l=>.agg (QjE r l)
 | .tup l=>.tup (QjE r l)
 | .fn f a b=>.fn f (QjE r a) (QjE r b)
 | .iface t x=>.iface t (V.ren r x)
 | x=>x
def QjE (r:Nat→Nat):List V→List V
 | []=>[]
 | u::l=>V.ren r u::QjE r l
end
mutual
def V.under (k:Nat):V→Bool
 | .ptr n _ _=>decide (n<k)
 | .sl n _ _ _ _ _=>decide (n<k)
 | .mp n _=>decide (n<k)
 | .agg l=>QU k l
 | .tup l=>QU k l
 | .fn _ a b=>QU k a&&QU k b
 | .iface _ x=>V.under k x
 | _=>true
def QU (k:Nat):List V→Bool
 | []=>true
 | u::l=>V.under k u&&QU k l
end
theorem YZ {r:Nat→Nat}:∀ l,QjE r l=l.map (V.ren r)
 | []=>by simp [QjE]
 | u::l=>by simp [QjE,YZ l]
theorem Qa3 {k:Nat}:∀ {l:List V},QU k l=true→∀ u∈l,V.under k u=true
 | [],_,u,h=>by cases h
 | x::l,h,u,hu=>by
   simp only [QU,Bool.and_eq_true] at h
   cases hu with
   | head=>exact h.1
   | tail _ hu=>exact Qa3 h.2 u hu
mutual
theorem V.ren_nameless {r:Nat→Nat}:∀ u:V,Qf u=true→V.ren r u=u
 | .any,_=>by rw [V.ren] <;> simp
 | .int ..,_=>by rw [V.ren] <;> simp
 | .bool ..,_=>by rw [V.ren] <;> simp
 | .str ..,_=>by rw [V.ren] <;> simp
 | .val ..,_=>by rw [V.ren] <;> simp
 | .agg l,h=>by rw [V.ren,Yo l (by simpa [Qf] using h)]
 | .tup l,h=>by rw [V.ren,Yo l (by simpa [Qf] using h)]
 | .ptr ..,h=>by simp [Qf] at h
 | .ref ..,_=>by rw [V.ren] <;> simp
 | .sl ..,h=>by simp [Qf] at h
 | .lst ..,_=>by rw [V.ren] <;> simp
 | .mp ..,h=>by simp [Qf] at h
 | .fn f a b,h=>by
   simp only [Qf,Bool.and_eq_true] at h
   rw [V.ren,Yo a h.1,Yo b h.2]
 | .iface t x,h=>by rw [V.ren,V.ren_nameless x (by simpa [Qf] using h)]
theorem Yo {r:Nat→Nat}:∀ l:List V,Qc l=true→QjE r l=l
 | [],_=>by rw [QjE]
 | u::l,h=>by
   simp only [Qc,Bool.and_eq_true] at h
   rw [QjE,V.ren_nameless u h.1,Yo l h.2]
end
mutual
theorem V.under_nameless {k:Nat}:∀ u:V,Qf u=true→V.under k u=true
 | .any,_=>by rw [V.under] <;> simp
 | .int ..,_=>by rw [V.under] <;> simp
 | .bool ..,_=>by rw [V.under] <;> simp
 | .str ..,_=>by rw [V.under] <;> simp
 | .val ..,_=>by rw [V.under] <;> simp
 | .agg l,h=>by rw [V.under,Ql l (by simpa [Qf] using h)]
 | .tup l,h=>by rw [V.under,Ql l (by simpa [Qf] using h)]
 | .ptr ..,h=>by simp [Qf] at h
 | .ref ..,_=>by rw [V.under] <;> simp
 | .sl ..,h=>by simp [Qf] at h
 | .lst ..,_=>by rw [V.under] <;> simp
 | .mp ..,h=>by simp [Qf] at h
 | .fn f a b,h=>by
   simp only [Qf,Bool.and_eq_true] at h
   rw [V.under,Ql a h.1,Ql b h.2]; rfl
 | .iface t x,h=>by rw [V.under,V.under_nameless x (by simpa [Qf] using h)]
theorem Ql {k:Nat}:∀ l:List V,Qc l=true→QU k l=true
 | [],_=>by rw [QU]
 | u::l,h=>by
   simp only [Qc,Bool.and_eq_true] at h
   rw [QU,V.under_nameless u h.1,Ql l h.2]; rfl
end
def Ob.ren (r:Nat→Nat):Ob→Ob
 | .arr v T cs=>.arr v T (QjE r cs)
 | .map v es=>.map v (es.map fun p=>(p.1,V.ren r p.2))
 | .it v nm mv cnt s=>.it v (r nm) mv cnt s
def Ob.under (k:Nat):Ob→Bool
 | .arr _ _ cs=>QU k cs
 | .map _ es=>es.all fun p=>V.under k p.2
 | .it _ nm _ _ _=>decide (nm<k)
theorem Ob.ren_ver (r:Nat→Nat) (ob:Ob):(ob.ren r).ver=ob.ver:=by cases ob <;> rfl
variable {r:Nat→Nat} {ρS ρB:Names}
theorem VR.up {I:Imm} (h:∀ n v l,ρS n v=some l→ρB (r n) v=some l) {u:V} {x:Value} (hv:VR I ρS u x):VR I ρB (V.ren r u) x:=by
 have main:∀ {ρ':Names} {u:V} {x:Value},VR I ρ' u x→ρ'=ρS→VR I ρB (V.ren r u) x:=by
  intro ρ' u x hv
  induction hv with
  | agg ρ' l xs hl _ ih =>
    intro e
    simp only [V.ren,YZ]
    refine .agg _ _ _ (by simpa using hl) fun j u x h1 h2=>?_
    simp only [List.getElem?_map,Option.map_eq_some_iff] at h1
    obtain ⟨u0,h1,rfl⟩:=h1
    exact ih j u0 x h1 h2 e
  | tup ρ' l xs hl _ ih =>
    intro e
    simp only [V.ren,YZ]
    refine .tup _ _ _ (by simpa using hl) fun j u x h1 h2=>?_
    simp only [List.getElem?_map,Option.map_eq_some_iff] at h1
    obtain ⟨u0,h1,rfl⟩:=h1
    exact ih j u0 x h1 h2 e
  | fn ρ' f l xs m ys hl hm _ _ ih1 ih2 =>
    intro e
    simp only [V.ren,YZ]
    refine .fn _ _ _ _ _ _ (by simpa using hl) (by simpa using hm) (fun j u x h1 h2=>?_) (fun j u x h1 h2=>?_)
    ·simp only [List.getElem?_map,Option.map_eq_some_iff] at h1
     obtain ⟨u0,h1,rfl⟩:=h1
     exact ih1 j u0 x h1 h2 e
    ·simp only [List.getElem?_map,Option.map_eq_some_iff] at h1
     obtain ⟨u0,h1,rfl⟩:=h1
     exact ih2 j u0 x h1 h2 e
  | iface ρ' t x y _ ih=>intro e; simp only [V.ren]; exact .iface _ _ _ _ (ih e)
  | ptr ρ' m u off b o e hm=>intro e'; subst e'; simp only [V.ren]; exact .ptr _ _ _ _ _ _ _ (h _ _ _ hm)
  | sl ρ' m u off sz len lim b o e cap hm hlen h3 h4=>intro e'; subst e'; simp only [V.ren]; exact .sl _ _ _ _ _ _ _ _ _ _ _ (h _ _ _ hm) hlen h3 h4
  | slN ρ' m u sz lim a hm h3=>intro e'; subst e'; simp only [V.ren]; exact .slN _ _ _ _ _ _ (h _ _ _ hm) h3
  | any=>intro _; simp only [V.ren]; exact .any _ _
  | int=>intro _; simp only [V.ren]; exact .int _ _ _
  | bool=>intro _; simp only [V.ren]; exact .bool _ _
  | str=>intro _; simp only [V.ren]; exact .str _ _
  | val=>intro _; simp only [V.ren]; exact .val _ _
  | ref _ _ _ _ _ f h1 h2=>intro _; simp only [V.ren]; exact .ref _ _ _ _ _ f h1 h2
  | lst _ _ _ _ _ _ _ f h0 h1 h2 h3 h4 h5=>intro _; simp only [V.ren]; exact .lst _ _ _ _ _ _ _ f h0 h1 h2 h3 h4 h5
  | lstN _ _ _ _ _ h=>intro _; simp only [V.ren]; exact .lstN _ _ _ _ _ h
  | mp _ _ _ _ _ _ hm=>intro e'; subst e'; simp only [V.ren]; exact .mp _ _ _ _ _ _ (h _ _ _ hm)
 exact main hv rfl
theorem VR.down {I:Imm} {k:Nat} (h:∀ n,n<k→∀ v,ρS n v=ρB (r n) v):∀ {u:V} {x:Value},V.under k u=true→VR I ρB (V.ren r u) x→VR I ρS u x:=by
 have main:∀ {ρ':Names} {u':V} {x:Value},VR I ρ' u' x→ρ'=ρB→∀ u,V.ren r u=u'→V.under k u=true→VR I ρS u x:=by
  intro ρ' u' x hv
  induction hv with
  | agg ρ' l xs hl _ ih =>
    intro e u hu hk
    cases u <;> simp only [V.ren,reduceCtorEq,V.agg.injEq] at hu
    rename_i l0
    subst hu
    rw [YZ] at hl ih
    simp only [V.under] at hk
    refine .agg _ _ _ (by simpa using hl) fun j u x h1 h2=>?_
    exact ih j (V.ren r u) x (by simp [h1]) h2 e u rfl (Qa3 hk u (List.mem_of_getElem? h1))
  | tup ρ' l xs hl _ ih =>
    intro e u hu hk
    cases u <;> simp only [V.ren,reduceCtorEq,V.tup.injEq] at hu
    rename_i l0
    subst hu
    rw [YZ] at hl ih
    simp only [V.under] at hk
    refine .tup _ _ _ (by simpa using hl) fun j u x h1 h2=>?_
    exact ih j (V.ren r u) x (by simp [h1]) h2 e u rfl (Qa3 hk u (List.mem_of_getElem? h1))
  | fn ρ' f l xs m ys hl hm _ _ ih1 ih2 =>
    intro e u hu hk
    cases u <;> simp only [V.ren,reduceCtorEq,V.fn.injEq] at hu
    rename_i f0 l0 m0
    obtain ⟨rfl,rfl,rfl⟩:=hu
    rw [YZ] at hl ih1
    rw [YZ] at hm ih2
    simp only [V.under,Bool.and_eq_true] at hk
    refine .fn _ _ _ _ _ _ (by simpa using hl) (by simpa using hm) (fun j u x h1 h2=>?_) (fun j u x h1 h2=>?_)
    ·exact ih1 j (V.ren r u) x (by simp [h1]) h2 e u rfl (Qa3 hk.1 u (List.mem_of_getElem? h1))
    ·exact ih2 j (V.ren r u) x (by simp [h1]) h2 e u rfl (Qa3 hk.2 u (List.mem_of_getElem? h1))
  | iface ρ' t x y _ ih =>
    intro e u hu hk
    cases u <;> simp only [V.ren,reduceCtorEq,V.iface.injEq] at hu
    obtain ⟨rfl,hu⟩:=hu
    simp only [V.under] at hk
    exact .iface _ _ _ _ (ih e _ hu hk)
  | ptr ρ' m u off b o e hm =>
    intro e' u hu hk
    cases u <;> simp only [V.ren,reduceCtorEq,V.ptr.injEq] at hu
    obtain ⟨rfl,rfl,rfl⟩:=hu
    simp only [V.under,decide_eq_true_eq] at hk
    subst e'
    exact .ptr _ _ _ _ _ _ _ ((h _ hk _).trans hm)
  | sl ρ' m u off sz len lim b o e cap hm hlen h3 h4 =>
    intro e' u hu hk
    cases u <;> simp only [V.ren,reduceCtorEq,V.sl.injEq] at hu
    obtain ⟨rfl,rfl,rfl,rfl,rfl,rfl⟩:=hu
    simp only [V.under,decide_eq_true_eq] at hk
    subst e'
    exact .sl _ _ _ _ _ _ _ _ _ _ _ ((h _ hk _).trans hm) hlen h3 h4
  | slN ρ' m u sz lim a hm h3 =>
    intro e' u hu hk
    cases u <;> simp only [V.ren,reduceCtorEq,V.sl.injEq] at hu
    obtain ⟨rfl,rfl,rfl,rfl,rfl,rfl⟩:=hu
    simp only [V.under,decide_eq_true_eq] at hk
    subst e'
    exact .slN _ _ _ _ _ _ ((h _ hk _).trans hm) h3
  | any=>intro _ u hu _; cases u <;> simp only [V.ren,reduceCtorEq] at hu; exact .any _ _
  | int=>intro _ u hu _; cases u <;> simp only [V.ren,reduceCtorEq] at hu; rw [hu]; exact .int _ _ _
  | bool=>intro _ u hu _; cases u <;> simp only [V.ren,reduceCtorEq] at hu; rw [hu]; exact .bool _ _
  | str=>intro _ u hu _; cases u <;> simp only [V.ren,reduceCtorEq] at hu; rw [hu]; exact .str _ _
  | val=>intro _ u hu _; cases u <;> simp only [V.ren,reduceCtorEq] at hu; rw [hu]; exact .val _ _
  | ref _ _ _ _ _ f h1 h2=>intro _ u hu _; cases u <;> simp only [V.ren,reduceCtorEq] at hu; rw [hu]; exact .ref _ _ _ _ _ f h1 h2
  | lst _ _ _ _ _ _ _ f h0 h1 h2 h3 h4 h5=>intro _ u hu _; cases u <;> simp only [V.ren,reduceCtorEq] at hu; rw [hu]; exact .lst _ _ _ _ _ _ _ f h0 h1 h2 h3 h4 h5
  | lstN _ _ _ _ _ h=>intro _ u hu _; cases u <;> simp only [V.ren,reduceCtorEq] at hu; rw [hu]; exact .lstN _ _ _ _ _ h
  | mp _ _ _ _ _ _ hm =>
    intro e' u hu hk
    cases u <;> simp only [V.ren,reduceCtorEq,V.mp.injEq] at hu
    obtain ⟨rfl,rfl⟩:=hu
    simp only [V.under,decide_eq_true_eq] at hk
    subst e'
    exact .mp _ _ _ _ _ _ ((h _ hk _).trans hm)
 intro u x hk hv
 exact main hv rfl u rfl hk
end Go.Am
namespace Go.Am
open Go
variable {P:Program} {G:Nat→Option V} {I:Imm} {w:World}
theorem ObR.up {ρS ρB:Names} {r:Nat→Nat} (h:∀ n v l,ρS n v=some l→ρB (r n) v=some l) {i:Nat} {ob:Ob} (ho:ObR I ρS w i ob):ObR I ρB w (r i) (ob.ren r):=by
 cases ob with
 | arr v T cs =>
   simp only [Ob.ren,YZ]
   rcases ho with ⟨h1,h2⟩ | ⟨b,o,e,c,lo,hi,h1,h2,h3,h4,h5,h6⟩
   ·exact .inl ⟨h _ _ _ h1,by simp [h2]⟩
   ·refine .inr ⟨b,o,e,c,lo,hi,h _ _ _ h1,h2,by simpa using h3,h4,h5,fun j u hu=>?_⟩
    simp only [List.getElem?_map,Option.map_eq_some_iff] at hu
    obtain ⟨u0,hu,rfl⟩:=hu
    obtain ⟨x,g1,g2,g3⟩:=h6 j u0 hu
    exact ⟨x,g1,g2.up h,g3⟩
 | map v es =>
   obtain ⟨b,o,e,c,h1,h2,h3,h4,h5⟩:=ho
   refine ⟨b,o,e,c,h _ _ _ h1,h2,by simpa using h3,h4,fun j p x hp hx=>?_⟩
   simp only [List.getElem?_map,Option.map_eq_some_iff] at hp
   obtain ⟨p0,hp,rfl⟩:=hp
   exact ⟨(h5 j p0 x hp hx).1,(h5 j p0 x hp hx).2.up h⟩
 | it v nm mv cnt s =>
   obtain ⟨b,e,m,o',e',h1,h2,h3⟩:=ho
   exact ⟨b,e,m,o',e',h _ _ _ h1,h _ _ _ h2,h3⟩
theorem ObR.down {ρS ρB:Names} {r:Nat→Nat} {k:Nat} (h:∀ n,n<k→∀ v,ρS n v=ρB (r n) v) {i:Nat} (hi:i<k) {ob:Ob} (hk:ob.under k=true) (ho:ObR I ρB w (r i) (ob.ren r)):ObR I ρS w i ob:=by
 cases ob with
 | arr v T cs =>
   simp only [Ob.ren,YZ] at ho
   simp only [Ob.under] at hk
   rcases ho with ⟨h1,h2⟩ | ⟨b,o,e,c,lo,hi',h1,h2,h3,h4,h5,h6⟩
   ·exact .inl ⟨(h i hi v).trans h1,by simpa using h2⟩
   ·refine .inr ⟨b,o,e,c,lo,hi',(h i hi v).trans h1,h2,by simpa using h3,h4,h5,fun j u hu=>?_⟩
    obtain ⟨x,g1,g2,g3⟩:=h6 j (V.ren r u) (by simp [hu])
    exact ⟨x,g1,VR.down h (Qa3 hk u (List.mem_of_getElem? hu)) g2,g3⟩
 | map v es =>
   obtain ⟨b,o,e,c,h1,h2,h3,h4,h5⟩:=ho
   refine ⟨b,o,e,c,(h i hi v).trans h1,h2,by simpa using h3,h4,fun j p x hp hx=>?_⟩
   have:=h5 j (p.1,V.ren r p.2) x (by simp [hp]) hx
   simp only [Ob.under,List.all_eq_true] at hk
   exact ⟨this.1,VR.down h (hk p (List.mem_of_getElem? hp)) this.2⟩
 | it v nm mv cnt s =>
   obtain ⟨b,e,m,o',e',h1,h2,h3⟩:=ho
   simp only [Ob.under,decide_eq_true_eq] at hk
   exact ⟨b,e,m,o',e',(h i hi v).trans h1,(h nm hk mv).trans h2,h3⟩
def rOf (rl:List Nat) (L i:Nat):Nat:=if i<rl.length then rl.getD i 0 else i - rl.length+L
variable {rl:List Nat}
theorem Qq8 {L:Nat} (h:rl.Nodup) (hL:∀ x∈rl,x<L) {i j:Nat} (e:rOf rl L i=rOf rl L j):i=j:=by
 unfold rOf at e
 split at e <;> split at e
 ·rename_i hi hj
  rw [List.getD_eq_getElem?_getD,List.getD_eq_getElem?_getD,List.getElem?_eq_getElem hi,List.getElem?_eq_getElem hj] at e
  have hp:=List.pairwise_iff_getElem.1 h
  simp only [Option.getD_some] at e
  rcases Nat.lt_trichotomy i j with h' | h' | h'
  ·exact absurd e (hp i j hi hj h')
  ·exact h'
  ·exact absurd e.symm (hp j i hj hi h')
 ·rename_i hi hj
  rw [List.getD_eq_getElem?_getD,List.getElem?_eq_getElem hi] at e
  have:=hL _ (List.getElem_mem hi)
  simp at e
  omega
 ·rename_i hi hj
  rw [List.getD_eq_getElem?_getD,List.getElem?_eq_getElem hj] at e
  have:=hL _ (List.getElem_mem hj)
  simp at e
  omega
 ·omega
def Qb8 (r:Nat→Nat):Nat→List (Option Ob)→List (Option Ob)→List (Option Ob)
 | _,[],oB=>oB
 | i,x::l,oB=>Qb8 r (i+1) l (oB.set (r i) (x.map (Ob.ren r)))
theorem ZW (r:Nat→Nat):∀ l i oB,(Qb8 r i l oB).length=oB.length
 | [],_,_=>rfl
 | x::l,i,oB=>by simp [Qb8,ZW r l]
theorem Qbg {r:Nat→Nat}:∀ {l:List (Option Ob)} {i:Nat} {oB:List (Option Ob)} {m:Nat},(∀ j,i≤j→j<i+l.length→r j≠m)→(Qb8 r i l oB)[m]?=oB[m]?
 | [],_,_,_,_=>rfl
 | x::l,i,oB,m,h=>by
   rw [Qb8,Qbg (fun j h1 h2=>h j (by omega) (by simp; omega))]
   exact List.getElem?_set_ne (h i (Nat.le_refl _) (by simp))
theorem QhS {r:Nat→Nat} (hr:∀ i j,r i=r j→i=j):∀ {l:List (Option Ob)} {i:Nat} {oB:List (Option Ob)} {j:Nat} {x:Option Ob},l[j]?=some x→r (i+j)<oB.length→(Qb8 r i l oB)[r (i+j)]?=some (x.map (Ob.ren r))
 | [],_,_,_,_,h,_=>by simp at h
 | y::l,i,oB,j,x,h,hlt=>by
   cases j with
   | zero =>
     simp at h; subst h
     rw [Qb8,Qbg (fun j h1 _ e=>by have:=hr _ _ e; omega)]
     have hlt:r i<oB.length:=hlt
     simp [hlt]
   | succ j =>
     rw [Qb8]
     have:=QhS hr (l:=l) (i:=i+1) (oB:=oB.set (r i) (y.map (Ob.ren r))) (j:=j) (x:=x) (by simpa using h) (by simpa [Nat.add_assoc,Nat.add_comm 1 j] using hlt)
     simpa [Nat.add_assoc,Nat.add_comm 1 j] using this
def QcE (r:Nat→Nat) (k:Nat) (oB oS:List (Option Ob)):List (Option Ob):=Qb8 r 0 (oS.take k) oB++(oS.drop k).map (Option.map (Ob.ren r))
theorem QnI {oS:List (Option Ob)} {σB:H} {f:Nat} {argsS:List V} {bS bB:Nat} {QS Q:V→H→Prop}
 (h:C P G bS f argsS ⟨σB.t,oS⟩ QS) (hrl:rl.length=oS.length) (hnd:rl.Nodup) (hlt:∀ x∈rl,x<σB.o.length)
 (hold:∀ (i:Nat) (ob:Ob),oS[i]?=some (some ob)→ob.under oS.length=true∧σB.o[rOf rl σB.o.length i]?=some (some (ob.ren (rOf rl σB.o.length))))
 (hb:∀ i,bS≤i→i<oS.length→bB≤rOf rl σB.o.length i) (hbS:bS≤oS.length) (hargs:QU oS.length argsS=true)
 (k:∀ vS σS,QS vS σS→oS.length≤σS.o.length∧Q (V.ren (rOf rl σB.o.length) vS) ⟨σS.t,QcE (rOf rl σB.o.length) oS.length σB.o σS.o⟩) :
 C P G bB f (QjE (rOf rl σB.o.length) argsS) σB Q:=by
 classical
 intro I ρB w xs R hbB hc
 generalize hre:rOf rl σB.o.length=r at *
 have hr:∀ i j,r i=r j→i=j:=fun i j e=>by rw [← hre] at e; exact Qq8 hnd hlt e
 have hrlt:∀ i,i<oS.length→r i<σB.o.length:=fun i hi=>by
  rw [← hre]; unfold rOf; rw [if_pos (by omega)]
  rw [List.getD_eq_getElem?_getD,List.getElem?_eq_getElem (by omega)]
  exact hlt _ (List.getElem_mem _)
 have hrge:∀ i,oS.length≤i→r i=i - oS.length+σB.o.length:=fun i hi=>by rw [← hre]; unfold rOf; rw [if_neg (by omega),hrl]
 obtain ⟨ρS,hρS⟩:∃ ρS:Names,∀ i v,ρS i v=if i<oS.length then ρB (r i) v else none:=⟨_,fun _ _=>rfl⟩
 have hS:∀ n,n<oS.length→∀ v,ρS n v=ρB (r n) v:=fun n hn v=>by rw [hρS,if_pos hn]
 have hblkS:∀ i b,blk ρS ⟨σB.t,oS⟩ i=some b→i<oS.length∧blk ρB σB (r i)=some b:=fun i b e=>by
  unfold blk at e ⊢
  split at e
  ·rename_i ob ho
   have hi:=(List.getElem?_eq_some_iff.1 ho).1
   rw [(hold i ob ho).2]
   simp only [Ob.ren_ver]
   rw [hS i hi] at e
   exact ⟨hi,e⟩
  ·cases e
 have RS:Rel G I ρS ⟨σB.t,oS⟩ w:=by
  refine ⟨fun i ob ho=>?_,fun i v l e=>?_,fun i j b e e'=>?_,R.imm,fun i b e o=>R.immsep _ b (hblkS i b e).2 o,R.globs⟩
  ·have hi:=(List.getElem?_eq_some_iff.1 ho).1
   exact ObR.down hS hi (hold i ob ho).1 (R.objs _ _ (hold i ob ho).2)
  ·rw [hρS] at e
   split at e
   ·exact R.fresh _ _ _ e
   ·cases e
  ·exact hr _ _ (R.sep _ _ b (hblkS i b e).2 (hblkS j b e').2)
 have hcS:Cells I ρS argsS xs:=by
  rw [YZ] at hc
  refine ⟨by simpa using hc.1,fun j u x h1 h2=>?_⟩
  exact VR.down hS (Qa3 hargs u (List.mem_of_getElem? h1)) (hc.2 j (V.ren r u) x (by simp [h1]) h2)
 refine (h I ρS w xs RS hbS hcS).mono fun e w' ⟨v,x,I',ρS',σS,h1,h2,RS',St,h5,h6⟩=>?_
 obtain ⟨hlen,hQ⟩:=k v σS h6
 obtain ⟨ρB',hB1,hB2⟩:∃ ρB':Names,(∀ i v,ρB' (r i) v=(ρB (r i) v).or (ρS' i v))∧(∀ m,(∀ i,r i≠m)→∀ v,ρB' m v=ρB m v):=by
  refine ⟨fun m v=>if h:∃ i,r i=m then (ρB m v).or (ρS' (Classical.choose h) v) else ρB m v,fun i v=>?_,fun m hm v=>?_⟩
  ·have he:∃ j,r j=r i:=⟨i,rfl⟩
   have:Classical.choose he=i:=hr _ _ (Classical.choose_spec he)
   simp only [dif_pos he,this]
  ·exact dif_neg (fun h=>h.elim fun i hi=>hm i hi)
 have hSle:=St.names
 have agree:∀ i v l,ρS' i v=some l→ρB' (r i) v=some l:=fun i v l e=>by
  rw [hB1]
  cases hh:ρB (r i) v with
  | none=>simpa using e
  | some l' =>
    by_cases hi:i<oS.length
    ·have:=hSle i v l' ((hS i hi v).trans hh)
     rw [this] at e; cases e; rfl
    ·rcases St.newnames i v l e with e' | e'
     ·rw [hρS,if_neg hi] at e'; cases e'
     ·have:=R.fresh _ _ _ hh
      exact absurd this (by simp at e'; omega)
 have back:∀ i v l,ρB' (r i) v=some l→ρB (r i) v=some l∨ρS' i v=some l:=fun i v l e=>by
  rw [hB1] at e
  cases hh:ρB (r i) v with
  | none=>rw [hh] at e; exact .inr (by simpa using e)
  | some l'=>rw [hh] at e; exact .inl (by simpa using e)
 have hBle:ρB.le ρB':=fun m v l e=>by
  by_cases hm:∃ i,r i=m
  ·obtain ⟨i,rfl⟩:=hm
   rw [hB1,e]; rfl
  ·rw [hB2 m (fun i hi=>hm ⟨i,hi⟩)]; exact e
 obtain ⟨oM,hoM⟩:∃ oM,QcE r oS.length σB.o σS.o=oM:=⟨_,rfl⟩
 rw [hoM] at hQ
 have hMlen:oM.length=σB.o.length+(σS.o.length - oS.length):=by rw [← hoM]; simp [QcE,ZW]
 have hMin:∀ i,i<σS.o.length→oM[r i]?=σS.o[i]?.map (Option.map (Ob.ren r)):=fun i hi=>by
  rw [← hoM,QcE]
  by_cases hk:i<oS.length
  ·rw [List.getElem?_append_left (by rw [ZW]; exact hrlt i hk)]
   have:=QhS hr (l:=σS.o.take oS.length) (i:=0) (oB:=σB.o) (j:=i) (x:=σS.o[i]) (by rw [List.getElem?_take,if_pos hk,List.getElem?_eq_getElem hi]) (by simpa using hrlt i hk)
   rw [Nat.zero_add] at this
   rw [this,List.getElem?_eq_getElem hi]; rfl
  ·have:=hrge i (by omega)
   rw [List.getElem?_append_right (by rw [ZW]; omega),ZW,this]
   rw [List.getElem?_map,List.getElem?_drop]
   congr 2; omega
 have hMout:∀ m,m<σB.o.length→(∀ i,r i≠m)→oM[m]?=σB.o[m]?:=fun m hm hn=>by
  rw [← hoM,QcE,List.getElem?_append_left (by rw [ZW]; exact hm)]
  exact Qbg fun j _ _=>hn j
 have hcase:∀ m (ob:Ob),oM[m]?=some (some ob)→(∃ i ob',r i=m∧σS.o[i]?=some (some ob')∧ob=ob'.ren r)∨((∀ i,r i≠m)∧σB.o[m]?=some (some ob)):=fun m ob e=>by
  by_cases hm:∃ i,i<σS.o.length∧r i=m
  ·obtain ⟨i,hi,rfl⟩:=hm
   rw [hMin i hi] at e
   simp only [Option.map_eq_some_iff] at e
   obtain ⟨x,e1,y,e2,rfl⟩:=e
   subst e2
   exact .inl ⟨i,y,rfl,e1,rfl⟩
  ·have hml:=(List.getElem?_eq_some_iff.1 e).1
   have hno:∀ i,r i≠m:=fun i e'=>by
    by_cases hi:i<σS.o.length
    ·exact hm ⟨i,hi,e'⟩
    ·have:=hrge i (by omega)
     omega
   have:m<σB.o.length:=by
    by_cases h':m<σB.o.length
    ·exact h'
    ·exact absurd (by rw [hrge _ (by omega)]; omega) (hno (m - σB.o.length+oS.length))
   exact .inr ⟨hno,by rw [← hMout m this hno]; exact e⟩
 have verS:∀ i ob,σS.o[i]?=some (some ob)→∃ l,ρS' i ob.ver=some l:=fun i ob ho=>by
  have:=RS'.objs i ob ho
  cases ob with
  | arr v T cs=>rcases this with ⟨a,_⟩ | ⟨b,o,e,c,lo,hi,a,_⟩ <;> exact ⟨_,a⟩
  | map v es=>obtain ⟨b,o,e,c,a,_⟩:=this; exact ⟨_,a⟩
  | it v nm mv cnt s=>obtain ⟨b,e,m,o',e',a,_⟩:=this; exact ⟨_,a⟩
 have hblkM:∀ m b,blk ρB' ⟨σS.t,oM⟩ m=some b→(∃ i,r i=m∧blk ρS' σS i=some b)∨((∀ i,r i≠m)∧blk ρB σB m=some b):=fun m b e=>by
  unfold blk at e
  split at e
  ·rename_i ob ho
   rcases hcase m ob ho with ⟨i,ob',rfl,h1,rfl⟩ | ⟨h1,h2⟩
   ·obtain ⟨l,hl⟩:=verS i ob' h1
    left
    refine ⟨i,rfl,?_⟩
    rw [Ob.ren_ver,agree i _ l hl] at e
    simp [blk,h1,hl]
    simpa using e
   ·right
    rw [hB2 m h1] at e
    exact ⟨h1,by simp only [blk,h2]; exact e⟩
  ·cases e
 have verO:∀ i (ob:Ob),oS[i]?=some (some ob)→∃ l,ρS i ob.ver=some l:=fun i ob ho=>by
  have:=RS.objs i ob ho
  cases ob with
  | arr v T cs=>rcases this with ⟨a,_⟩ | ⟨b,o,e,c,lo,hi,a,_⟩ <;> exact ⟨_,a⟩
  | map v es=>obtain ⟨b,o,e,c,a,_⟩:=this; exact ⟨_,a⟩
  | it v nm mv cnt s=>obtain ⟨b,e,m,o',e',a,_⟩:=this; exact ⟨_,a⟩
 have low:∀ i b,i<bS→blk ρS' σS i=some b→blk ρS ⟨σB.t,oS⟩ i=some b:=fun i b hi e=>by
  rcases St.below i hi with e' | e'
  ·unfold blk at e ⊢
   simp only at e' ⊢
   rw [e'] at e
   split at e
   ·rename_i ob ho
    obtain ⟨l,hl⟩:=verO i ob ho
    rw [hSle _ _ _ hl] at e
    simp only [ho,hl]; exact e
   ·cases e
  ·unfold blk at e
   split at e
   ·rename_i ob ho; exact absurd ho (e' ob)
   ·cases e
 have ownB:∀ i b,blk ρS' σS i=some b→w.heap.size≤b∨∃ j,blk ρB σB (r j)=some b∧(bS≤j∨j=i)∧j<oS.length:=fun i b e=>by
  by_cases hi:bS≤i
  ·rcases St.owned i b hi e with e' | ⟨j,hj,e'⟩
   ·exact .inl e'
   ·exact .inr ⟨j,(hblkS j b e').2,.inl hj,(hblkS j b e').1⟩
  ·have:=low i b (by omega) e
   exact .inr ⟨i,(hblkS i b this).2,.inr rfl,(hblkS i b this).1⟩
 have RM:Rel G I' ρB' ⟨σS.t,oM⟩ w':=by
  refine ⟨fun m ob ho=>?_,fun m v l e=>?_,fun m m' b e e'=>?_,RS'.imm,fun m b e o=>?_,RS'.globs⟩
  ·rcases hcase m ob ho with ⟨i,ob',rfl,g1,rfl⟩ | ⟨g1,g2⟩
   ·exact (RS'.objs i ob' g1).up agree
   ·refine ((R.objs m ob g2).of_block fun b hb'=>?_).mono St.imms hBle
    have hbm:blk ρB σB m=some b:=by simp [blk,g2,hb']
    refine St.keep b (Qdl R hbm) fun i _ e=>?_
    have:=(hblkS i b e).2
    exact g1 i (R.sep _ _ b this hbm)
  ·by_cases hm:∃ i,r i=m
   ·obtain ⟨i,rfl⟩:=hm
    rcases back i v l e with e | e
    ·exact Nat.lt_of_lt_of_le (R.fresh _ _ _ e) St.tick
    ·exact RS'.fresh _ _ _ e
   ·rw [hB2 m (fun i hi=>hm ⟨i,hi⟩)] at e
    exact Nat.lt_of_lt_of_le (R.fresh _ _ _ e) St.tick
  ·rcases hblkM m b e with ⟨i,rfl,g1⟩ | ⟨g1,g2⟩ <;> rcases hblkM m' b e' with ⟨i',rfl,g1'⟩ | ⟨g1',g2'⟩
   ·rw [RS'.sep i i' b g1 g1']
   ·rcases ownB i b g1 with h' | ⟨j,h',_⟩
    ·have:=Qdl R g2'; omega
    ·exact absurd (R.sep _ _ b h' g2') (g1' j)
   ·rcases ownB i' b g1' with h' | ⟨j,h',_⟩
    ·have:=Qdl R g2; omega
    ·exact absurd (R.sep _ _ b h' g2) (g1 j)
   ·exact R.sep _ _ b g2 g2'
  ·rcases hblkM m b e with ⟨i,rfl,g1⟩ | ⟨g1,g2⟩
   ·exact RS'.immsep i b g1 o
   ·cases hI:I' b o with
    | none=>rfl
    | some y =>
      rcases St.immed b o (R.immsep m b g2 o) (by rw [hI]; simp) with h' | ⟨j,_,h'⟩
      ·have:=Qdl R g2; omega
      ·exact absurd (R.sep _ _ b (hblkS j b h').2 g2) (g1 j)
 have lift:∀ j b,bS≤j→blk ρS ⟨σB.t,oS⟩ j=some b→∃ m,bB≤m∧blk ρB σB m=some b:=fun j b hj e =>
  ⟨r j,hb j hj (hblkS j b e).1,(hblkS j b e).2⟩
 refine ⟨V.ren r v,x,I',ρB',⟨σS.t,oM⟩,h1,h2.up agree,RM,⟨St.os,St.tape,St.output,St.size,hBle,St.imms,St.tick,fun m v l e=>?_,fun b hb' hn=>?_,fun m b hm e=>?_,fun b o e e'=>?_,fun m hm=>?_⟩,by simp only; omega,hQ⟩
 ·by_cases hm:∃ i,r i=m
  ·obtain ⟨i,rfl⟩:=hm
   rcases back i v l e with e | e
   ·exact .inl e
   ·rcases St.newnames i v l e with e' | e'
    ·rw [hρS] at e'
     split at e'
     ·exact .inl e'
     ·cases e'
    ·exact .inr e'
  ·rw [hB2 m (fun i hi=>hm ⟨i,hi⟩)] at e
   exact .inl e
 ·refine St.keep b hb' fun i hi e=>?_
  obtain ⟨m,g1,g2⟩:=lift i b hi e
  exact hn m g1 g2
 ·rcases hblkM m b e with ⟨i,rfl,g1⟩ | ⟨g1,g2⟩
  ·by_cases hi:bS≤i
   ·rcases St.owned i b hi g1 with e' | ⟨j,hj,e'⟩
    ·exact .inl e'
    ·exact .inr (lift j b hj e')
   ·exact .inr ⟨r i,hm,(hblkS i b (low i b (by omega) g1)).2⟩
  ·exact .inr ⟨m,hm,g2⟩
 ·rcases St.immed b o e e' with h' | ⟨j,hj,h'⟩
  ·exact .inl h'
  ·exact .inr (lift j b hj h')
 ·by_cases hi:∃ i,r i=m
  ·obtain ⟨i,rfl⟩:=hi
   have hil:i<oS.length:=by
    by_cases h':i<oS.length
    ·exact h'
    ·have:=hrge i (by omega); omega
   have hib:i<bS:=by
    by_cases h':bS≤i
    ·have:=hb i h' hil; omega
    ·omega
   rcases St.below i hib with e' | e'
   ·simp only at e'
    have hx:oS[i]?=some oS[i]:=List.getElem?_eq_getElem hil
    cases hoi:oS[i] with
    | none=>right; intro ob; simp only; rw [hMin i (by omega),e',hx,hoi]; simp
    | some ob=>left; simp only; rw [hMin i (by omega),e',hx,hoi,(hold i ob (by rw [hx,hoi])).2]; rfl
   ·right
    intro ob ho
    simp only at ho
    rw [hMin i (by omega)] at ho
    simp only [Option.map_eq_some_iff] at ho
    obtain ⟨y,h1,z,h2,_⟩:=ho
    subst h2
    exact e' z h1
  ·left
   exact hMout m (by omega) fun i e=>hi ⟨i,e⟩
end Go.Am
namespace Go.Am
open Go
variable {P:Program} {G:Nat→Option V} {base:Nat} {fr:Fr} {σ:H} {K:V→Prop} {KV:V→H→Prop}
def QgI (G:Nat→Option V) (fr:Fr):List (Nat × Nat × Arg)→Bool
 | []=>true
 | p::l=>Qcr (arg G fr p.2.2)&&QgI G fr l
theorem QhQ:∀ l:List (Nat × Nat × Arg),(QgI G fr l=true)=(∀ q∈l,Qcr (arg G fr q.2.2)=true)
 | []=>by simp [QgI]
 | p::l=>by simp [QgI,QhQ l]
@[go_sem ↓] theorem QMR {z ps}:evR G fr σ K (.build z ps)=XU (QgI G fr ps=true) (Qic G fr ps z fun cs=>K (.agg cs)):=by rw [QhQ]; rfl
@[go_sem] theorem QMI:QgI G fr []=true:=rfl
@[go_sem] theorem QKF {p l}:QgI G fr (p::l)=(Qcr (arg G fr p.2.2)&&QgI G fr l):=rfl
@[go_sem ↓] theorem fillV_nil {cs KL}:Qic G fr [] cs KL=KL cs:=rfl
@[go_sem ↓] theorem QMP {off sz x r cs KL}:Qic G fr ((off,sz,x)::r) cs KL=XU ((arg G fr x).cells.length=sz∧off+sz≤cs.length) (Qic G fr r (cs.take off++(arg G fr x).cells++cs.drop (off+sz)) KL):=rfl
@[go_sem ↓] theorem QLL {ag T sz zero len ps}:evW base G fr σ KV (.bsl true ag T sz zero len ps)=XU (QgI G fr ps=true) (Qic G fr ps (List.replicate len zero).flatten fun cs=>XU (ones cs) (KV (.sl σ.o.length σ.t 0 sz len none) (σ.push (.arr σ.t T cs)))):=by rw [QhQ]; rfl
@[go_sem ↓] theorem QLM {ag T sz zero len ps}:evW base G fr σ KV (.bsl false ag T sz zero len ps)=XU (QgI G fr ps=true) (Qic G fr ps (List.replicate len zero).flatten fun cs=>XU (ones cs∧Qc cs=true) (KV (.lst sz (if ag=true then Qbm sz len cs else cs) true) σ)):=by rw [QhQ]; rfl
@[go_sem ↓] theorem evW_app {T sz bytes str s x}:evW base G fr σ KV (.app T sz bytes str s x)=QpF base G fr σ KV T sz bytes str s x:=rfl
def QIr (σ:H) (T sz bytes:Nat) (zero:List V) (l c:V) (K:V→H→Prop):Prop:=match l,c with
    | .int _ l,.int _ c=>XU (0≤l∧l≤c∧c * bytes≤140737488355328∧c≤9223372036854775807∧ones zero) (K (.sl σ.o.length σ.t 0 sz l.toNat none) (σ.push (.arr σ.t T (List.replicate l.toNat zero).flatten)))
    | _,_=>False
@[go_sem ↓] theorem evW_mksl {T sz bytes zero l c}:evW base G fr σ KV (.mksl T sz bytes zero l c)=QIr σ T sz bytes zero (arg G fr l) (arg G fr c) KV:=rfl
def Qx2 (base:Nat) (σ:H) (ag:Bool) (ks:List Kd) (m k x:V) (K:V→H→Prop):Prop:=match m with
    | .mp nm v=>match σ.o[nm]? with
      | some (some (.map v' es))=>XU (v=v'∧base≤nm∧Qcd ag ks k es∧Qf k=true) (K (.tup []) ⟨σ.t,σ.o.set nm (some (.map v (Qna ks k x es)))⟩)
      | _=>False
    | _=>False
@[go_sem ↓] theorem evW_mapup {ag ks m k x}:evW base G fr σ KV (.mapup ag ks m k x)=Qx2 base σ ag ks (arg G fr m) (arg G fr k) (arg G fr x) KV:=rfl
def QIs (base:Nat) (σ:H) (ag:Bool) (ks:List Kd) (zero m k:V) (K:V→H→Prop):Prop:=match m with
    | .mp nm v=>match σ.o[nm]? with
      | some (some (.map v' es))=>XU (v=v'∧base≤nm∧Qcd ag ks k es∧Qf k=true)
       (K (.tup [(Qku ks k es).getD zero,.int .i64 ((Qf2 ks k es).getD es.length:Nat)]) ⟨σ.t,σ.o.set nm (some (.map v (Qpe ks k zero es)))⟩)
      | _=>False
    | _=>False
@[go_sem ↓] theorem evW_ment {ag ks zero m k}:evW base G fr σ KV (.ment ag ks zero m k)=QIs base σ ag ks zero (arg G fr m) (arg G fr k) KV:=rfl
def evMst (base:Nat) (σ:H) (m s x:V) (K:V→H→Prop):Prop:=match m,s with
    | .mp nm v,.int _ i=>match σ.o[nm]? with
      | some (some (.map v' es))=>XU (v=v'∧base≤nm∧0≤i∧i.toNat<es.length) (K (.tup []) ⟨σ.t,σ.o.set nm (some (.map v (es.modify i.toNat fun p=>(p.1,x))))⟩)
      | _=>False
    | _,_=>False
@[go_sem ↓] theorem evW_mst {m s x}:evW base G fr σ KV (.mst m s x)=evMst base σ (arg G fr m) (arg G fr s) (arg G fr x) KV:=rfl
def QIt (base:Nat) (σ:H) (x:V) (K:V→H→Prop):Prop:=match x with
    | .sl k v off sz len lim=>match σ.o[k]? with
      | some (some (.arr v' _ cs))=>XU (v=v'∧base≤k∧0<cs.length) (K (.sl k v off sz len lim) σ)
      | _=>False
    | _=>False
@[go_sem ↓] theorem evW_mark {x}:evW base G fr σ KV (.mark x)=QIt base σ (arg G fr x) KV:=rfl
attribute [go_sem] QoY
attribute [go_sem ↓] QIt QpF Qie QIr Qx2 QIs evMst
def evSlc (sz:Nat) (x:V) (G:Nat→Option V) (fr:Fr) (lo hi:Option Arg) (K:V→Prop):Prop:=match x with
    | .lst s l tight=>Q0 G fr l.length lo hi fun a b=>XU (s=sz∨l=[]) (K (.lst s ((l.drop a).take (b - a)) (tight&&decide (b=l.length))))
    | .sl n v off s len lim=>Q0 G fr len lo hi fun a b=>XU (s=sz∧(a=0∨a<b)) (K (.sl n v (off+a * sz) s (b - a) (lim.map (· - a))))
    | _=>False
@[go_sem ↓] theorem evR_slc {sz x lo hi}:evR G fr σ K (.slc sz x lo hi none)=evSlc sz (arg G fr x) G fr lo hi K:=rfl
def QIn (sz:Nat) (mx x:V) (G:Nat→Option V) (fr:Fr) (lo hi:Option Arg) (K:V→Prop):Prop:=match mx,x with
    | .int _ m,.lst s l _=>Q0 G fr m.toNat lo hi fun a b=>XU (0≤m∧m.toNat≤l.length∧(s=sz∨l=[])) (K (.lst s ((l.drop a).take (b - a)) (decide (b=m.toNat))))
    | .int _ m,.sl n v off s len _=>Q0 G fr m.toNat lo hi fun a b=>XU (s=sz∧(a=0∨a<b)∧0≤m∧m.toNat≤len) (K (.sl n v (off+a * sz) s (b - a) (some (m.toNat - a))))
    | _,_=>False
@[go_sem ↓] theorem evR_slc3 {sz x lo hi mx}:evR G fr σ K (.slc sz x lo hi (some mx))=QIn sz (arg G fr mx) (arg G fr x) G fr lo hi K:=rfl
def evSsl (x:V) (G:Nat→Option V) (fr:Fr) (lo hi:Option Arg) (K:V→Prop):Prop:=match x with
    | .str s=>Q0 G fr s.length lo hi fun l h=>K (.str ((s.drop l).take (h - l)))
    | _=>False
@[go_sem ↓] theorem evR_ssl {x lo hi}:evR G fr σ K (.ssl x lo hi)=evSsl (arg G fr x) G fr lo hi K:=rfl
def Qx1 (n sz:Nat) (x:V) (G:Nat→Option V) (fr:Fr) (σ:H) (lo hi:Option Arg) (K:V→Prop):Prop:=match x with
    | .ptr nm v off=>match σ.o[nm]? with
      | some (some (.arr v' _ cs))=>Q0 G fr n lo hi fun a b=>XU (v=v'∧off+n * sz≤cs.length∧(a=0∨a<n)) (K (.sl nm v (off+a * sz) sz (b - a) (some (n - a))))
      | _=>False
    | _=>False
@[go_sem ↓] theorem evR_slarr {n sz x lo hi}:evR G fr σ K (.slarr n sz x lo hi)=Qx1 n sz (arg G fr x) G fr σ lo hi K:=rfl
@[go_sem ↓] theorem QLR {len} {KB:Nat→Nat→Prop}:Q0 G fr len none none KB=KB 0 len:=rfl
def QIy (len:Nat) (h:V) (K:Nat→Nat→Prop):Prop:=match h with
 | .int _ h=>XU (0≤h∧h.toNat≤len) (K 0 h.toNat)
 | _=>False
def QIx (len:Nat) (l:V) (K:Nat→Nat→Prop):Prop:=match l with
 | .int _ l=>XU (0≤l∧l.toNat≤len) (K l.toNat len)
 | _=>False
def QIw (len:Nat) (l h:V) (K:Nat→Nat→Prop):Prop:=match l,h with
 | .int _ l,.int _ h=>XU (0≤l∧l≤h∧h.toNat≤len) (K l.toNat h.toNat)
 | _,_=>False
@[go_sem ↓] theorem QLQ {len h} {KB:Nat→Nat→Prop}:Q0 G fr len none (some h) KB=QIy len (arg G fr h) KB:=by
  simp only [Q0,Option.map_none,Option.map_some]
  cases arg G fr h <;> rfl
@[go_sem ↓] theorem QLP {len l} {KB:Nat→Nat→Prop}:Q0 G fr len (some l) none KB=QIx len (arg G fr l) KB:=by
  simp only [Q0,Option.map_none,Option.map_some]
  cases arg G fr l <;> rfl
@[go_sem ↓] theorem QLO {len l h} {KB:Nat→Nat→Prop}:Q0 G fr len (some l) (some h) KB=QIw len (arg G fr l) (arg G fr h) KB:=by
  simp only [Q0,Option.map_some]
  cases arg G fr l <;> cases arg G fr h <;> rfl
attribute [go_sem ↓] evSlc QIn evSsl Qx1 QIy QIx QIw
attribute [go_sem] List.replicate_succ List.replicate_zero List.flatten_cons List.flatten_nil Qbm
attribute [go_sem] Bool.true_and Bool.and_true Bool.and_self Bool.false_and Bool.and_false Option.map_none Option.map_some
attribute [go_sem] beq_iff_eq bne_iff_ne beq_eq_false_iff_ne bne_eq_false_iff_eq decide_eq_true_eq decide_eq_false_iff_not Bool.not_eq_true' Bool.not_eq_false'
attribute [go_sem] implies_true Bool.and_eq_true Bool.or_eq_true Bool.not_eq_true Bool.not_eq_false ne_eq not_true_eq_false
end Go.Am
namespace Go.Am
open Go
variable {P:Program} {G:Nat→Option V}
inductive KI where
 | at (t:AT) (dead:List Nat)
 | ac (c:AC)
 | blk (id:Nat)
 | lp (k:Nat) (c:AC)
def rnd (P:Program) (G:Nat→Option V) (n base:Nat) (x:AC) (Q:AE→Fr→H→Prop):Nat→Fr→H→Prop
 | 0,_,_=>False
 | k+1,fr,σ=>W P G n base x fr σ (Qbb (fun fr σ=>rnd P G n base x Q k fr σ) Q)
def sem (P:Program) (G:Nat→Option V) (n base:Nat) (Q:AE→Fr→H→Prop):List KI→AE→Fr→H→Prop
 | [],e,fr,σ=>Q e fr σ
 | .ac c::s,.nrm,fr,σ=>W P G n base c fr σ fun e fr σ=>sem P G n base Q s e fr σ
 | .at t dead::s,.nrm,fr,σ=>WT P G n base t fr σ fun fr σ=>sem P G n base Q s .nrm (fdel fr dead) σ
 | .lp k c::s,.nrm,fr,σ=>rnd P G n base c (fun e fr σ=>sem P G n base Q s e fr σ) k fr σ
 | .blk id::s,.ex i,fr,σ=>if i=id then sem P G n base Q s .nrm fr σ else sem P G n base Q s (.ex i) fr σ
 | _::s,e,fr,σ=>sem P G n base Q s e fr σ
def run (P:Program) (G:Nat→Option V) (n base:Nat) (Q:AE→Fr→H→Prop):Nat→List KI→AE→Fr→H→Prop
 | 0,s,e,fr,σ=>sem P G n base Q s e fr σ
 | _+1,[],e,fr,σ=>Q e fr σ
 | f+1,.blk id::s,.ex i,fr,σ=>if i=id then run P G n base Q f s .nrm fr σ else run P G n base Q f s (.ex i) fr σ
 | f+1,.ac c::s,.nrm,fr,σ=>match c with
   | .skip=>run P G n base Q f s .nrm fr σ
   | .reg t dead=>run P G n base Q f (.at t dead::s) .nrm fr σ
   | .seq a b=>run P G n base Q f (.ac a::.ac b::s) .nrm fr σ
   | .cond c a b=>condK (arg G fr c) (run P G n base Q f (.ac a::s) .nrm fr σ) (run P G n base Q f (.ac b::s) .nrm fr σ)
   | .block id a=>run P G n base Q f (.ac a::.blk id::s) .nrm fr σ
   | .loop a=>sem P G n base Q (.ac (.loop a)::s) .nrm fr σ
   | .exit id=>run P G n base Q f s (.ex id) fr σ
   | .ret=>run P G n base Q f s .ret fr σ
   | .bad=>False
 | f+1,.lp k c::s,.nrm,fr,σ=>match k with
   | 0=>False
   | k+1=>run P G n base Q f (.ac c::.lp k c::s) .nrm fr σ
 | f+1,.at t dead::s,.nrm,fr,σ=>match t with
   | .done=>run P G n base Q f s .nrm (fdel fr dead) σ
   | .rd d g op t=>Qbr g fr (fun fr=>evR G fr σ (fun v=>run P G n base Q f (.at t dead::s) .nrm (fput fr d v) σ) op) (fun fr=>run P G n base Q f (.at t dead::s) .nrm (fput fr d (.tup [])) σ)
   | .wr k d g op t=>Qbr g fr (fun fr=>evW (if k&&!op.isApp then σ.o.length else base) G fr σ (fun v σ'=>run P G n base Q f (.at t dead::s) .nrm (fput fr d v) σ') op) (fun fr=>run P G n base Q f (.at t dead::s) .nrm (fput fr d (.tup [])) σ)
   | .cl k d g h args t=>Qbr g fr (fun fr=>CV P G (if k then σ.o.length else base) (arg G fr h) (args.map (arg G fr)) σ fun v σ'=>sem P G n base Q (.at t dead::s) .nrm (fput fr d v) σ') (fun fr=>run P G n base Q f (.at t dead::s) .nrm (fput fr d (.tup [])) σ)
   | .bad _ d g t=>Qbr g fr (fun _=>False) (fun fr=>run P G n base Q f (.at t dead::s) .nrm (fput fr d (.tup [])) σ)
   | .alt a b=>run P G n base Q f (.at a dead::s) .nrm fr σ∧run P G n base Q f (.at b dead::s) .nrm fr σ
 | f+1,_::s,e,fr,σ=>run P G n base Q f s e fr σ
theorem Qg {n base:Nat} {Q:AE→Fr→H→Prop}:∀ (f:Nat) {s:List KI} {e:AE} {fr:Fr} {σ:H},run P G n base Q f s e fr σ→sem P G n base Q s e fr σ:=by
 intro f
 induction f with
 | zero=>intro s e fr σ h; exact h
 | succ f ih =>
   intro s e fr σ h
   cases s with
   | nil=>exact h
   | cons k s =>
     cases e with
     | ex i =>
       cases k with
       | blk id =>
         simp only [run] at h
         simp only [sem]
         split at h
         ·rename_i hi; rw [if_pos hi]; exact ih h
         ·rename_i hi; rw [if_neg hi]; exact ih h
       | ac c=>simp only [run] at h; simp only [sem]; exact ih h
       | lp k c=>simp only [run] at h; simp only [sem]; exact ih h
       | «at» t dead=>simp only [run] at h; simp only [sem]; exact ih h
     | ret=>cases k <;> (simp only [run] at h; simp only [sem]; exact ih h)
     | nrm =>
       cases k with
       | blk id=>simp only [run] at h; simp only [sem]; exact ih h
       | lp k c =>
         cases k with
         | zero=>exact h.elim
         | succ k =>
           refine W.conseq (ih (s:=.ac c::.lp k c::s) h) fun e fr σ he=>?_
           cases e <;> exact he
       | ac c =>
         cases c with
         | skip=>exact QIG (ih h)
         | reg t dead=>exact QMC (ih (s:=.at t dead::s) h)
         | seq a b =>
           refine W_seq (W.conseq (ih (s:=.ac a::.ac b::s) h) fun e fr σ he=>?_)
           cases e <;> exact he
         | cond c a b=>exact QIJ (condK.mono h (ih (s:=.ac a::s)) (ih (s:=.ac b::s)))
         | block id a =>
           refine QyL (W.conseq (ih (s:=.ac a::.blk id::s) h) fun e fr σ he=>?_)
           cases e <;> exact he
         | loop a=>exact h
         | exit id=>exact QII (ih h)
         | ret=>exact W_ret (ih h)
         | bad=>exact h.elim
       | «at» t dead =>
         cases t with
         | done=>exact QyM (ih h)
         | rd d g op t=>exact WT_rd (A:=fun fr v=>run P G n base Q f (.at t dead::s) .nrm (fput fr d v) σ) (B:=fun fr=>run P G n base Q f (.at t dead::s) .nrm (fput fr d (.tup [])) σ) h (fun fr v hv=>ih (s:=.at t dead::s) (e:=.nrm) hv) fun fr hv=>ih (s:=.at t dead::s) (e:=.nrm) hv
         | wr k d g op t=>exact WT_wr (A:=fun fr v σ=>run P G n base Q f (.at t dead::s) .nrm (fput fr d v) σ) (B:=fun fr=>run P G n base Q f (.at t dead::s) .nrm (fput fr d (.tup [])) σ) h (fun fr v σ' hv=>ih (s:=.at t dead::s) (e:=.nrm) hv) fun fr hv=>ih (s:=.at t dead::s) (e:=.nrm) hv
         | cl k d g hh args t=>exact WT_cl (A:=fun fr v σ=>sem P G n base Q (.at t dead::s) .nrm (fput fr d v) σ) (B:=fun fr=>run P G n base Q f (.at t dead::s) .nrm (fput fr d (.tup [])) σ) h (fun fr v σ' hv=>hv) fun fr hv=>ih (s:=.at t dead::s) (e:=.nrm) hv
         | bad k d g t=>exact QIK (B:=fun fr=>run P G n base Q f (.at t dead::s) .nrm (fput fr d (.tup [])) σ) h fun fr hv=>ih (s:=.at t dead::s) (e:=.nrm) hv
         | alt a b=>exact QIL (ih (s:=.at a dead::s) h.1) (ih (s:=.at b dead::s) h.2)
variable {c:AC}
theorem Qm {n base:Nat} {Q:AE→Fr→H→Prop} (f:Nat) {fr:Fr} {σ:H} (h:run P G n base Q f [.ac c] .nrm fr σ):W P G n base c fr σ Q:=Qg f h
theorem QX {n base:Nat} {Q:AE→Fr→H→Prop} {s:List KI} {fr fr':Fr} {σ σ':H} (h:Shift G n base fr σ fr' σ') (k:sem P G n base Q (.ac c::s) .nrm fr' σ'):sem P G n base Q (.ac c::s) .nrm fr σ:=QyK h k
theorem QKJ {n base:Nat} {x:AC} {s:List KI} {Q:AE→Fr→H→Prop} (J:Nat→Fr→H→Prop)
 (round:∀ m fr σ,J m fr σ→W P G n base x fr σ (Qbb (fun fr σ=>∃ m' fr' σ',m'<m∧Shift G n base fr σ fr' σ'∧J m' fr' σ') fun e fr σ=>sem P G n base Q s e fr σ)) {m0:Nat} {fr0:Fr} {σ0:H} (h0:J m0 fr0 σ0) :
 sem P G n base Q (.ac (.loop x)::s) .nrm fr0 σ0:=W_inv J round h0
def kR (P:Program) (G:Nat→Option V) (n base:Nat) (Q:AE→Fr→H→Prop) (f:Nat) (d:Option Nat) (t:AT) (dead:List Nat) (s:List KI) (fr:Fr) (σ:H) (v:V):Prop:=run P G n base Q f (.at t dead::s) .nrm (fput fr d v) σ
def kW (P:Program) (G:Nat→Option V) (n base:Nat) (Q:AE→Fr→H→Prop) (f:Nat) (d:Option Nat) (t:AT) (dead:List Nat) (s:List KI) (fr:Fr) (v:V) (σ:H):Prop:=run P G n base Q f (.at t dead::s) .nrm (fput fr d v) σ
def kC (P:Program) (G:Nat→Option V) (n base:Nat) (Q:AE→Fr→H→Prop) (d:Option Nat) (t:AT) (dead:List Nat) (s:List KI) (fr:Fr) (v:V) (σ:H):Prop:=sem P G n base Q (.at t dead::s) .nrm (fput fr d v) σ
section
variable {n base f:Nat} {Q:AE→Fr→H→Prop} {s:List KI} {fr:Fr} {σ:H} {d:Option Nat} {t:AT} {dead:List Nat}
@[go_sem] theorem kR_eq {v}:kR P G n base Q f d t dead s fr σ v=run P G n base Q f (.at t dead::s) .nrm (fput fr d v) σ:=rfl
@[go_sem] theorem kW_eq {v}:kW P G n base Q f d t dead s fr v σ=run P G n base Q f (.at t dead::s) .nrm (fput fr d v) σ:=rfl
@[go_sem] theorem run_nil {e}:run P G n base Q (f+1) [] e fr σ=Q e fr σ:=rfl
@[go_sem] theorem run_blk {id}:run P G n base Q (f+1) (.blk id::s) .nrm fr σ=run P G n base Q f s .nrm fr σ:=rfl
@[go_sem] theorem QMK {id i}:run P G n base Q (f+1) (.blk id::s) (.ex i) fr σ=if i=id then run P G n base Q f s .nrm fr σ else run P G n base Q f s (.ex i) fr σ:=rfl
@[go_sem] theorem QKL {id}:run P G n base Q (f+1) (.blk id::s) .ret fr σ=run P G n base Q f s .ret fr σ:=rfl
@[go_sem] theorem QMN {c}:run P G n base Q (f+1) (.ac c::s) .ret fr σ=run P G n base Q f s .ret fr σ:=rfl
@[go_sem] theorem QMM {c}:run P G n base Q (f+1) (.at c dead::s) .ret fr σ=run P G n base Q f s .ret fr σ:=rfl
@[go_sem] theorem run_ac_ex {c i}:run P G n base Q (f+1) (.ac c::s) (.ex i) fr σ=run P G n base Q f s (.ex i) fr σ:=rfl
@[go_sem] theorem run_at_ex {c i}:run P G n base Q (f+1) (.at c dead::s) (.ex i) fr σ=run P G n base Q f s (.ex i) fr σ:=rfl
@[go_sem] theorem run_lp {k c}:run P G n base Q (f+1) (.lp (k+1) c::s) .nrm fr σ=run P G n base Q f (.ac c::.lp k c::s) .nrm fr σ:=rfl
@[go_sem] theorem QMJ {k c}:run P G n base Q (f+1) (.lp k c::s) .ret fr σ=run P G n base Q f s .ret fr σ:=rfl
@[go_sem] theorem run_lp_ex {k c i}:run P G n base Q (f+1) (.lp k c::s) (.ex i) fr σ=run P G n base Q f s (.ex i) fr σ:=rfl
@[go_sem] theorem run_skip:run P G n base Q (f+1) (.ac .skip::s) .nrm fr σ=run P G n base Q f s .nrm fr σ:=rfl
@[go_sem] theorem run_reg:run P G n base Q (f+1) (.ac (.reg t dead)::s) .nrm fr σ=run P G n base Q f (.at t dead::s) .nrm fr σ:=rfl
@[go_sem] theorem run_seq {a b}:run P G n base Q (f+1) (.ac (.seq a b)::s) .nrm fr σ=run P G n base Q f (.ac a::.ac b::s) .nrm fr σ:=rfl
@[go_sem] theorem run_cond {c a b}:run P G n base Q (f+1) (.ac (.cond c a b)::s) .nrm fr σ=QL0 (arg G fr c) (run P G n base Q f (.ac a::s) .nrm fr σ) (run P G n base Q f (.ac b::s) .nrm fr σ):=QL1
@[go_sem] theorem run_block {id a}:run P G n base Q (f+1) (.ac (.block id a)::s) .nrm fr σ=run P G n base Q f (.ac a::.blk id::s) .nrm fr σ:=rfl
@[go_sem] theorem run_loop {a}:run P G n base Q (f+1) (.ac (.loop a)::s) .nrm fr σ=sem P G n base Q (.ac (.loop a)::s) .nrm fr σ:=rfl
@[go_sem] theorem run_exit {id}:run P G n base Q (f+1) (.ac (.exit id)::s) .nrm fr σ=run P G n base Q f s (.ex id) fr σ:=rfl
@[go_sem] theorem run_ret:run P G n base Q (f+1) (.ac .ret::s) .nrm fr σ=run P G n base Q f s .ret fr σ:=rfl
@[go_sem] theorem run_bad:run P G n base Q (f+1) (.ac .bad::s) .nrm fr σ=False:=rfl
@[go_sem] theorem run_done:run P G n base Q (f+1) (.at .done dead::s) .nrm fr σ=run P G n base Q f s .nrm (fdel fr dead) σ:=rfl
@[go_sem] theorem run_rd {op}:run P G n base Q (f+1) (.at (.rd d none op t) dead::s) .nrm fr σ=evR G fr σ (kR P G n base Q f d t dead s fr σ) op:=rfl
@[go_sem] theorem run_rd_t {op k}:run P G n base Q (f+1) (.at (.rd d (some (k,true)) op t) dead::s) .nrm fr σ=Qiy (Qd fr k) (run P G n base Q (f+1) (.at (.rd d none op t) dead::s) .nrm (QfT fr k (.bool true)) σ) (run P G n base Q f (.at t dead::s) .nrm (fput (QfT fr k (.bool false)) d (.tup [])) σ) (run P G n base Q f (.at t dead::s) .nrm (fput fr d (.tup [])) σ):=QmT (A:=fun fr=>evR G fr σ (fun v=>run P G n base Q f (.at t dead::s) .nrm (fput fr d v) σ) op) (B:=fun fr=>run P G n base Q f (.at t dead::s) .nrm (fput fr d (.tup [])) σ)
@[go_sem] theorem run_rd_f {op k}:run P G n base Q (f+1) (.at (.rd d (some (k,false)) op t) dead::s) .nrm fr σ=Qiy (Qd fr k) (run P G n base Q f (.at t dead::s) .nrm (fput (QfT fr k (.bool true)) d (.tup [])) σ) (run P G n base Q (f+1) (.at (.rd d none op t) dead::s) .nrm (QfT fr k (.bool false)) σ) (run P G n base Q f (.at t dead::s) .nrm (fput fr d (.tup [])) σ):=QmU (A:=fun fr=>evR G fr σ (fun v=>run P G n base Q f (.at t dead::s) .nrm (fput fr d v) σ) op) (B:=fun fr=>run P G n base Q f (.at t dead::s) .nrm (fput fr d (.tup [])) σ)
@[go_sem] theorem run_wr {op b}:run P G n base Q (f+1) (.at (.wr b d none op t) dead::s) .nrm fr σ=evW (if b&&!op.isApp then σ.o.length else base) G fr σ (kW P G n base Q f d t dead s fr) op:=rfl
@[go_sem] theorem run_wr_t {op k b}:run P G n base Q (f+1) (.at (.wr b d (some (k,true)) op t) dead::s) .nrm fr σ=Qiy (Qd fr k) (run P G n base Q (f+1) (.at (.wr b d none op t) dead::s) .nrm (QfT fr k (.bool true)) σ) (run P G n base Q f (.at t dead::s) .nrm (fput (QfT fr k (.bool false)) d (.tup [])) σ) (run P G n base Q f (.at t dead::s) .nrm (fput fr d (.tup [])) σ):=QmT (A:=fun fr=>evW (if b&&!op.isApp then σ.o.length else base) G fr σ (fun v σ'=>run P G n base Q f (.at t dead::s) .nrm (fput fr d v) σ') op) (B:=fun fr=>run P G n base Q f (.at t dead::s) .nrm (fput fr d (.tup [])) σ)
@[go_sem] theorem run_wr_f {op k b}:run P G n base Q (f+1) (.at (.wr b d (some (k,false)) op t) dead::s) .nrm fr σ=Qiy (Qd fr k) (run P G n base Q f (.at t dead::s) .nrm (fput (QfT fr k (.bool true)) d (.tup [])) σ) (run P G n base Q (f+1) (.at (.wr b d none op t) dead::s) .nrm (QfT fr k (.bool false)) σ) (run P G n base Q f (.at t dead::s) .nrm (fput fr d (.tup [])) σ):=QmU (A:=fun fr=>evW (if b&&!op.isApp then σ.o.length else base) G fr σ (fun v σ'=>run P G n base Q f (.at t dead::s) .nrm (fput fr d v) σ') op) (B:=fun fr=>run P G n base Q f (.at t dead::s) .nrm (fput fr d (.tup [])) σ)
@[go_sem] theorem run_cl {h args b}:run P G n base Q (f+1) (.at (.cl b d none h args t) dead::s) .nrm fr σ=CV P G (if b=true then σ.o.length else base) (arg G fr h) (args.map (arg G fr)) σ (kC P G n base Q d t dead s fr):=rfl
@[go_sem] theorem run_cl_t {h args k b}:run P G n base Q (f+1) (.at (.cl b d (some (k,true)) h args t) dead::s) .nrm fr σ=Qiy (Qd fr k) (run P G n base Q (f+1) (.at (.cl b d none h args t) dead::s) .nrm (QfT fr k (.bool true)) σ) (run P G n base Q f (.at t dead::s) .nrm (fput (QfT fr k (.bool false)) d (.tup [])) σ) (run P G n base Q f (.at t dead::s) .nrm (fput fr d (.tup [])) σ):=QmT (A:=fun fr=>CV P G (if b=true then σ.o.length else base) (arg G fr h) (args.map (arg G fr)) σ fun v σ'=>sem P G n base Q (.at t dead::s) .nrm (fput fr d v) σ') (B:=fun fr=>run P G n base Q f (.at t dead::s) .nrm (fput fr d (.tup [])) σ)
@[go_sem] theorem run_cl_f {h args k b}:run P G n base Q (f+1) (.at (.cl b d (some (k,false)) h args t) dead::s) .nrm fr σ=Qiy (Qd fr k) (run P G n base Q f (.at t dead::s) .nrm (fput (QfT fr k (.bool true)) d (.tup [])) σ) (run P G n base Q (f+1) (.at (.cl b d none h args t) dead::s) .nrm (QfT fr k (.bool false)) σ) (run P G n base Q f (.at t dead::s) .nrm (fput fr d (.tup [])) σ):=QmU (A:=fun fr=>CV P G (if b=true then σ.o.length else base) (arg G fr h) (args.map (arg G fr)) σ fun v σ'=>sem P G n base Q (.at t dead::s) .nrm (fput fr d v) σ') (B:=fun fr=>run P G n base Q f (.at t dead::s) .nrm (fput fr d (.tup [])) σ)
@[go_sem] theorem QML {b}:run P G n base Q (f+1) (.at (.bad b d none t) dead::s) .nrm fr σ=False:=rfl
@[go_sem] theorem run_bad_t {k b}:run P G n base Q (f+1) (.at (.bad b d (some (k,true)) t) dead::s) .nrm fr σ=Qiy (Qd fr k) False (run P G n base Q f (.at t dead::s) .nrm (fput (QfT fr k (.bool false)) d (.tup [])) σ) (run P G n base Q f (.at t dead::s) .nrm (fput fr d (.tup [])) σ):=QmT (A:=fun _=>False) (B:=fun fr=>run P G n base Q f (.at t dead::s) .nrm (fput fr d (.tup [])) σ)
@[go_sem] theorem run_bad_f {k b}:run P G n base Q (f+1) (.at (.bad b d (some (k,false)) t) dead::s) .nrm fr σ=Qiy (Qd fr k) (run P G n base Q f (.at t dead::s) .nrm (fput (QfT fr k (.bool true)) d (.tup [])) σ) False (run P G n base Q f (.at t dead::s) .nrm (fput fr d (.tup [])) σ):=QmU (A:=fun _=>False) (B:=fun fr=>run P G n base Q f (.at t dead::s) .nrm (fput fr d (.tup [])) σ)
@[go_sem] theorem run_alt {a b}:run P G n base Q (f+1) (.at (.alt a b) dead::s) .nrm fr σ=(run P G n base Q f (.at a dead::s) .nrm fr σ∧run P G n base Q f (.at b dead::s) .nrm fr σ):=rfl
end
attribute [go_sem ↓] Qut QrS
variable {base':Nat} {A:AF} {T:Nat→Option AF}
theorem call (hT:Qe P T) {f:Nat} (hf:T f=some A) {n base:Nat} {Q:AE→Fr→H→Prop} {t:AT} {d:Option Nat} {dead:List Nat} {s:List KI} {fr:Fr} {args:List V} {σ:H} {R:V→H→Prop}
 (h:C P G base' f args σ R) (fuel:Nat) (k:∀ v σ',R v σ'→run P G n base Q fuel (.at t dead::s) .nrm (fput fr d v) σ'):CV P G base' (.fn (.func f) [] []) args σ (kC P G n base Q d t dead s fr) :=
 QtL hT hf (by rw [List.nil_append,List.append_nil]; exact h.conseq fun v σ' hq=>Qg fuel (k v σ' hq))
theorem Qqk (hT:Qe P T) {f:Nat} (hf:T f=some A) {n base:Nat} {Q:AE→Fr→H→Prop} {t:AT} {d:Option Nat} {dead:List Nat} {s:List KI} {fr:Fr} {args:List V} {σ:H} {R:V→Prop}
 (h:Pure P G f args R) (hn:Qc args=true) (fuel:Nat) (k:∀ v,R v→run P G n base Q fuel (.at t dead::s) .nrm (fput fr d v) σ):CV P G base' (.fn (.func f) [] []) args σ (kC P G n base Q d t dead s fr) :=
 call hT hf (C_pure (R:=fun v σ'=>R v∧σ'=σ) h hn fun v hv=>⟨hv,rfl⟩) fuel fun v σ' hq=>by obtain ⟨hq,rfl⟩:=hq; exact k v hq
def Keep (k:Nat) (Q:V→H→Prop) (v:V) (σ:H):Prop:=k≤σ.o.length∧Q v ⟨σ.t,σ.o.take k⟩
theorem Xd:∀ (k:Nat) (o:List (Option Ob)),Zl (o.take k) o
 | 0,o=>by simp [Zl]
 | k+1,[]=>by simp [Zl]
 | k+1,none::o=>by simpa [Zl] using Xd k o
 | k+1,some x::o=>by simpa [Zl] using Xd k o
theorem C_drop {base f:Nat} {args:List V} {σ:H} {Q Q2:V→H→Prop} (h:C P G base f args σ Q) (k:∀ v σ',Q v σ'→∃ o' t',Zl o' σ'.o∧σ'.t≤t'∧base≤o'.length∧Q2 v ⟨t',o'⟩):C P G base f args σ Q2:=by
 intro I ρ w xs R hb hc
 refine (h I ρ w xs R hb hc).mono fun e w' ⟨v,x,I',ρ',σ',h1,h2,h3,h4,h5,h6⟩=>?_
 obtain ⟨o',t',g1,g2,g3,g4⟩:=k v σ' h6
 obtain ⟨k1,k2⟩:=h3.drop (base:=base) g2 (QhP g1)
 exact ⟨v,x,I',ρ',⟨t',o'⟩,h1,h2,k1,h4.trans k2,g3,g4⟩
theorem Qj (k:Nat) {base f:Nat} {args:List V} {σ:H} {Q:V→H→Prop} (hb:base≤k) (h:C P G base f args σ (Keep k Q)):C P G base f args σ Q :=
 C_drop h fun v σ' hq=>⟨σ'.o.take k,σ'.t,Xd _ _,Nat.le_refl _,by have:=hq.1; simp; omega,hq.2⟩
attribute [go_sem] Keep
attribute [go_sem] H.mk.injEq
def Qrr (r:Nat→Nat) (k:Nat) (oB:List (Option Ob)):Nat→List (Option Ob)→Prop
 | _,[]=>True
 | i,none::l=>Qrr r k oB (i+1) l
 | i,some ob::l=>ob.under k=true∧oB[r i]?=some (some (ob.ren r))∧Qrr r k oB (i+1) l
theorem Qnm {r:Nat→Nat} {k:Nat} {oB:List (Option Ob)}:∀ {l:List (Option Ob)} {i:Nat},Qrr r k oB i l→∀ (j:Nat) (ob:Ob),l[j]?=some (some ob)→ob.under k=true∧oB[r (i+j)]?=some (some (ob.ren r))
 | [],_,_,j,ob,h=>by simp at h
 | none::l,i,hh,j,ob,h=>by
   cases j with
   | zero=>simp at h
   | succ j =>
     have:=Qnm (l:=l) (i:=i+1) hh j ob (by simpa using h)
     rwa [show i+1+j=i+(j+1) from by omega] at this
 | some x::l,i,hh,j,ob,h=>by
   cases j with
   | zero=>simp at h; subst h; exact ⟨hh.1,hh.2.1⟩
   | succ j =>
     have:=Qnm (l:=l) (i:=i+1) hh.2.2 j ob (by simpa using h)
     rwa [show i+1+j=i+(j+1) from by omega] at this
def Qt7 (L:Nat):List Nat→Prop
 | []=>True
 | x::l=>x<L∧Qt7 L l
theorem Qta {L:Nat}:∀ {l:List Nat},Qt7 L l→∀ x∈l,x<L
 | [],_,x,h=>by cases h
 | y::l,hh,x,h=>by
   rcases List.mem_cons.1 h with h | h
   ·rw [h]; exact hh.1
   ·exact Qta hh.2 x h
def QMU (bB bS:Nat):Nat→List Nat→Prop
 | _,[]=>True
 | i,x::l=>(bS≤i→bB≤x)∧QMU bB bS (i+1) l
theorem Qyr {bB bS:Nat}:∀ {l:List Nat} {i:Nat},QMU bB bS i l→∀ (j x:Nat),l[j]?=some x→bS≤i+j→bB≤x
 | [],_,_,j,x,h,_=>by simp at h
 | y::l,i,hh,j,x,h,hb=>by
   cases j with
   | zero=>simp at h; subst h; exact hh.1 hb
   | succ j=>exact Qyr (l:=l) (i:=i+1) hh.2 j x (by simpa using h) (by omega)
theorem QyR {oS:List (Option Ob)} (rl:List Nat) {σB:H} {f:Nat} {argsS args:List V} {bS bB:Nat} {QS Q:V→H→Prop}
 (h:C P G bS f argsS ⟨σB.t,oS⟩ QS) (hrl:rl.length=oS.length) (hnd:rl.Nodup) (hlt:Qt7 σB.o.length rl) (hold:Qrr (rOf rl σB.o.length) oS.length σB.o 0 oS) (hb:QMU bB bS 0 rl)
 (hbS:bS≤oS.length) (hargs:QU oS.length argsS=true) (ha:args=QjE (rOf rl σB.o.length) argsS)
 (k:∀ vS σS,QS vS σS→oS.length≤σS.o.length∧Q (V.ren (rOf rl σB.o.length) vS) ⟨σS.t,QcE (rOf rl σB.o.length) oS.length σB.o σS.o⟩):C P G bB f args σB Q:=by
 subst ha
 refine QnI h hrl hnd (Qta hlt) (fun i ob ho=>?_) (fun i h1 h2=>?_) hbS hargs k
 ·have:=Qnm hold i ob ho
  rwa [Nat.zero_add] at this
 ·unfold rOf
  rw [if_pos (by omega),List.getD_eq_getElem?_getD,List.getElem?_eq_getElem (by omega)]
  exact Qyr hb i _ (List.getElem?_eq_getElem (by omega)) (by omega)
mutual
theorem V.ren_under {r:Nat→Nat} {k:Nat} (h:∀ i,i<k→r i=i):∀ u:V,V.under k u=true→V.ren r u=u
 | .any,_=>by rw [V.ren] <;> simp
 | .int ..,_=>by rw [V.ren] <;> simp
 | .bool ..,_=>by rw [V.ren] <;> simp
 | .str ..,_=>by rw [V.ren] <;> simp
 | .val ..,_=>by rw [V.ren] <;> simp
 | .agg l,hu=>by rw [V.ren,ZX h l (by simpa [V.under] using hu)]
 | .tup l,hu=>by rw [V.ren,ZX h l (by simpa [V.under] using hu)]
 | .ptr n v o,hu=>by rw [V.ren,h n (by simpa [V.under] using hu)]
 | .ref ..,_=>by rw [V.ren] <;> simp
 | .sl n v o s l m,hu=>by rw [V.ren,h n (by simpa [V.under] using hu)]
 | .lst ..,_=>by rw [V.ren] <;> simp
 | .mp n v,hu=>by rw [V.ren,h n (by simpa [V.under] using hu)]
 | .fn f a b,hu=>by
   simp only [V.under,Bool.and_eq_true] at hu
   rw [V.ren,ZX h a hu.1,ZX h b hu.2]
 | .iface t x,hu=>by rw [V.ren,V.ren_under h x (by simpa [V.under] using hu)]
theorem ZX {r:Nat→Nat} {k:Nat} (h:∀ i,i<k→r i=i):∀ l:List V,QU k l=true→QjE r l=l
 | [],_=>by rw [QjE]
 | u::l,hu=>by
   simp only [QU,Bool.and_eq_true] at hu
   rw [QjE,V.ren_under h u hu.1,ZX h l hu.2]
end
theorem Ob.ren_under {r:Nat→Nat} {k:Nat} (h:∀ i,i<k→r i=i) (ob:Ob) (hu:ob.under k=true):ob.ren r=ob:=by
 cases ob with
 | arr v T cs=>simp only [Ob.under] at hu; simp [Ob.ren,ZX h cs hu]
 | map v es =>
   simp only [Ob.under,List.all_eq_true] at hu
   simp only [Ob.ren,Ob.map.injEq,true_and]
   have:∀ l:List (V × V),(∀ p∈l,p.2.under k=true)→l.map (fun p=>(p.1,V.ren r p.2))=l:=fun l hl=>by
    induction l with
    | nil=>rfl
    | cons q l ih =>
      rw [List.map_cons,ih fun p hp=>hl p (List.mem_cons_of_mem _ hp),V.ren_under h q.2 (hl q (List.mem_cons_self ..))]
   exact this es hu
 | it v nm mv c s=>simp only [Ob.under,decide_eq_true_eq] at hu; simp [Ob.ren,h nm hu]
def Qd6 (k:Nat):List (Option Ob)→Bool
 | []=>true
 | none::l=>Qd6 k l
 | some ob::l=>ob.under k&&Qd6 k l
theorem QbN {k:Nat}:∀ {l:List (Option Ob)},Qd6 k l=true→∀ (j:Nat) (ob:Ob),l[j]?=some (some ob)→ob.under k=true
 | [],_,j,ob,h=>by simp at h
 | none::l,hu,j,ob,h=>by
   cases j with
   | zero=>simp at h
   | succ j=>exact QbN (l:=l) hu j ob (by simpa using h)
 | some x::l,hu,j,ob,h=>by
   simp only [Qd6,Bool.and_eq_true] at hu
   cases j with
   | zero=>simp at h; subst h; exact hu.1
   | succ j=>exact QbN (l:=l) hu.2 j ob (by simpa using h)
variable {k:Nat}
theorem Qo6 {L i:Nat} (hi:i<k):rOf (List.range k) L i=i:=by
 unfold rOf
 rw [if_pos (by simpa using hi)]
 simp [List.getD_eq_getElem?_getD,hi]
variable {oS:List (Option Ob)}
theorem QMG {ex:List (Option Ob)} {σB:H} {f:Nat} {args:List V} {bS:Nat} {QS Q:V→H→Prop} (he:σB.o=oS++ex)
 (h:C P G bS f args ⟨σB.t,oS⟩ QS) (hu:Qd6 oS.length oS=true) (hbS:bS≤oS.length) (hargs:QU oS.length args=true)
 (k:∀ vS σS,QS vS σS→σS.o.length=oS.length∧Qd6 oS.length σS.o=true∧V.under oS.length vS=true∧Q vS ⟨σS.t,σS.o++ex⟩):C P G bS f args σB Q:=by
 obtain ⟨tB,oB⟩:=σB
 simp only at he h
 subst he
 have hid:∀ i,i<oS.length→rOf (List.range oS.length) (oS++ex).length i=i:=fun i hi=>Qo6 hi
 have:=QnI (rl:=List.range oS.length) (σB:=⟨tB,oS++ex⟩) (bB:=bS) (Q:=Q) h (by simp) List.nodup_range (fun x hx=>by simp at hx ⊢; omega) (fun i ob ho=>?_) (fun i h1 h2=>?_) hbS hargs (fun vS σS hq=>?_)
 ·rwa [ZX hid args hargs] at this
 ·have hi:=(List.getElem?_eq_some_iff.1 ho).1
  have hob:=QbN hu i ob ho
  refine ⟨hob,?_⟩
  simp only
  rw [hid i hi,Ob.ren_under hid ob hob,List.getElem?_append_left hi]
  exact ho
 ·simp only; rw [hid i h2]; exact h1
 ·obtain ⟨g1,g2,g3,g4⟩:=k vS σS hq
  refine ⟨by omega,?_⟩
  simp only
  rw [V.ren_under hid vS g3]
  have hm:QcE (rOf (List.range oS.length) (oS++ex).length) oS.length (oS++ex) σS.o=σS.o++ex:=by
   refine List.ext_getElem? fun m=>?_
   unfold QcE
   rw [List.drop_eq_nil_of_le (by omega),List.map_nil,List.append_nil,List.take_of_length_le (by omega)]
   by_cases hm:m<oS.length
   ·have hinj:∀ i j,rOf (List.range oS.length) (oS++ex).length i=rOf (List.range oS.length) (oS++ex).length j→i=j:=fun i j e=>Qq8 List.nodup_range (fun x hx=>by simp at hx ⊢; omega) e
    have:=QhS hinj (l:=σS.o) (i:=0) (oB:=oS++ex) (j:=m) (x:=σS.o[m]) (List.getElem?_eq_getElem (by omega)) (by rw [Nat.zero_add,hid m hm]; simp; omega)
    rw [Nat.zero_add,hid m hm] at this
    rw [this,List.getElem?_append_left (by omega),List.getElem?_eq_getElem (by omega)]
    cases hx:σS.o[m]'(by omega) with
    | none=>rfl
    | some ob=>simp only [Option.map_some]; rw [Ob.ren_under hid ob (QbN g2 m ob (by rw [List.getElem?_eq_getElem (by omega),hx]))]
   ·rw [Qbg fun j _ hj=>by rw [hid j (by omega)]; omega]
    rw [List.getElem?_append_right (by omega),List.getElem?_append_right (by omega),g1]
  rw [hm]
  exact g4
theorem callE {T:Nat→Option AF} (hT:Qe P T) {f:Nat} {A:AF} (hf:T f=some A) {ex:List (Option Ob)} {QS:V→H→Prop}
 {n base base':Nat} {Q:AE→Fr→H→Prop} {t:AT} {d:Option Nat} {dead:List Nat} {s:List KI} {fr:Fr} {args:List V} {σ:H}
 (h:C P G base' f args ⟨σ.t,oS⟩ QS) (he:σ.o=oS++ex) (hu:Qd6 oS.length oS=true) (hbS:base'≤oS.length) (hargs:QU oS.length args=true) (fuel:Nat)
 (k:∀ vS σS,QS vS σS→σS.o.length=oS.length∧Qd6 oS.length σS.o=true∧V.under oS.length vS=true∧run P G n base Q fuel (.at t dead::s) .nrm (fput fr d vS) ⟨σS.t,σS.o++ex⟩) :
 CV P G base' (.fn (.func f) [] []) args σ (kC P G n base Q d t dead s fr) :=
 call hT hf (QMG (Q:=fun v σ'=>run P G n base Q fuel (.at t dead::s) .nrm (fput fr d v) σ') he h hu hbS hargs k) fuel fun _ _ h=>h
def isI64:V→Bool
 | .int .i64 _=>true
 | _=>false
@[go_sem] theorem isI64_int {n:Int}:isI64 (.int .i64 n)=true:=rfl
attribute [go_sem] Qd6 Int.ofNat_lt Int.ofNat_le Int.toNat_natCast
attribute [go_sem] rOf Qb8 QcE Ob.ren QjE V.ren Ob.under QU V.under Qrr Qt7 QMU
attribute [go_sem] Option.some.injEq
def HShift (G:Nat→Option V) (base:Nat) (σ σ':H):Prop :=
 ∀ I ρ w,Rel G I ρ σ w→base≤σ.o.length→∃ I' ρ',Rel G I' ρ' σ' w∧Step base I ρ σ w I' ρ' σ' w∧base≤σ'.o.length
theorem HShift.refl (base:Nat) (σ:H):HShift G base σ σ:=fun I ρ w hR hb=>⟨I,ρ,hR,Step.refl _ _ _ _ _,hb⟩
theorem HShift.trans {base:Nat} {σ σ' σ'':H} (h:HShift G base σ σ') (k:HShift G base σ' σ''):HShift G base σ σ'':=fun I ρ w hR hb=>by
 obtain ⟨I1,ρ1,h1,h2,h3⟩:=h I ρ w hR hb
 obtain ⟨I2,ρ2,k1,k2,k3⟩:=k I1 ρ1 w h1 h3
 exact ⟨I2,ρ2,k1,h2.trans k2,k3⟩
theorem HShift.shift {n base:Nat} {fr:Fr} {σ σ':H} (h:HShift G base σ σ'):Shift G n base fr σ fr σ':=fun I ρ w a hR hF hb=>by
 obtain ⟨I1,ρ1,h1,h2,h3⟩:=h I ρ w hR hb
 exact ⟨I1,ρ1,h1,hF.mono h2.imms h2.names,h2,h3⟩
theorem QBc {base f:Nat} {args:List V} {σ:H} {Q Q2:V→H→Prop} (h:C P G base f args σ Q) (k:∀ v σ',Q v σ'→∃ σ2,HShift G base σ' σ2∧Q2 v σ2):C P G base f args σ Q2:=by
 intro I ρ w xs R hb hc
 refine (h I ρ w xs R hb hc).mono fun e w' ⟨v,x,I',ρ',σ',h1,h2,h3,h4,h5,h6⟩=>?_
 obtain ⟨σ2,g1,g2⟩:=k v σ' h6
 obtain ⟨I2,ρ2,k1,k2,k3⟩:=g1 I' ρ' w' h3 h5
 exact ⟨v,x,I2,ρ2,σ2,h1,h2.mono k2.imms k2.names,k1,h4.trans k2,k3,g2⟩
variable {cs:List V}
theorem Rel.reseen {I:Imm} {ρ:Names} {σ:H} {w:World} (R:Rel G I ρ σ w) {base v T:Nat} {cs':List V} (hbase:base≤k) (ho:σ.o[k]?=some (some (.arr v T cs))) (hob:ObR I ρ w k (.arr v T cs')) :
 Rel G I ρ ⟨σ.t,σ.o.set k (some (.arr v T cs'))⟩ w∧Step base I ρ σ w I ρ ⟨σ.t,σ.o.set k (some (.arr v T cs'))⟩ w:=by
 have hk:k<σ.o.length:=(List.getElem?_eq_some_iff.1 ho).1
 have hblk:∀ n,blk ρ ⟨σ.t,σ.o.set k (some (.arr v T cs'))⟩ n=blk ρ σ n:=fun n=>by
  unfold blk
  by_cases hn:n=k
  ·subst hn
   simp only [List.getElem?_set_self hk,ho,Ob.ver]
  ·simp only [List.getElem?_set_ne (Ne.symm hn)]
 refine ⟨⟨fun n ob hn=>?_,R.fresh,fun n m b h1 h2=>R.sep n m b (hblk n▸h1) (hblk m▸h2),R.imm,fun n b h=>R.immsep n b (hblk n▸h),R.globs⟩,
  ⟨rfl,rfl,rfl,Nat.le_refl _,.refl _,.refl _,Nat.le_refl _,fun _ _ _ h=>.inl h,fun _ _ _=>rfl,fun n b hn h=>.inr ⟨n,hn,hblk n▸h⟩,fun b o h h'=>absurd h h',fun n hn=>.inl (List.getElem?_set_ne (by omega))⟩⟩
 by_cases hnk:n=k
 ·subst hnk
  simp only [List.getElem?_set_self hk,Option.some.injEq] at hn
  subst hn
  exact hob
 ·rw [List.getElem?_set_ne (Ne.symm hnk)] at hn
  exact R.objs n ob hn
theorem HShift.ownAt (sz T:Nat) {base v T' p z:Nat} {t:Nat} {o:List (Option Ob)} (hbase:base≤k) (ho:o[k]?=some (some (.arr v T' cs))) (hp:cs[p]?=some (.lst z [] true)) :
 HShift G base ⟨t,o⟩ ⟨t+1,o.set k (some (.arr v T' (cs.set p (.sl o.length t 0 sz 0 none))))++[some (.arr t T [])]⟩:=fun I ρ w R hb=>by
 have hk:k<o.length:=(List.getElem?_eq_some_iff.1 ho).1
 have hpl:p<cs.length:=(List.getElem?_eq_some_iff.1 hp).1
 obtain ⟨R1,S1⟩:=R.nowhere (T:=T) (k:=o.length) hb (σ':=H.push ⟨t,o⟩ (.arr t T [])) (by simp [H.push]) (fun m hm=>by
  simp only [H.push,List.getElem?_append]
  split
  ·rfl
  ·have:m - o.length≠0:=by omega
   rw [List.getElem?_eq_none (l:=o) (by omega)]
   cases h:m - o.length with
   | zero=>exact absurd h this
   | succ j=>rfl) rfl
 have ho1:(H.push ⟨t,o⟩ (.arr t T [])).o[k]?=some (some (.arr v T' cs)):=by
  simp only [H.push,List.getElem?_append,if_pos hk]
  exact ho
 have hob:=R1.objs k _ ho1
 have hob':ObR I (ρ.add o.length t .nowhere) w k (.arr v T' (cs.set p (.sl o.length t 0 sz 0 none))):=by
  rcases hob with ⟨h1,h2⟩ | ⟨b,o',e,c,lo,hi,h1,h2,h3,h4,h5,h6⟩
  ·subst h2; simp at hpl
  ·refine .inr ⟨b,o',e,c,lo,hi,h1,h2,by simpa using h3,h4,h5,fun j u hj=>?_⟩
   by_cases hjp:j=p
   ·subst hjp
    simp only [List.getElem?_set_self hpl,Option.some.injEq] at hj
    subst hj
    obtain ⟨x,q1,q2,q3⟩:=h6 j _ hp
    refine ⟨x,q1,?_,q3⟩
    cases q2 with
    | lstN _ _ _ a cap h =>
      rw [h rfl]
      exact .slN _ _ _ _ _ _ (Names.add_self _ _ _ _) fun m h=>by cases h
    | lst _ _ _ _ _ _ _ f h0=>exact absurd rfl h0
   ·rw [List.getElem?_set_ne (Ne.symm hjp)] at hj
    exact h6 j u hj
 obtain ⟨R2,S2⟩:=R1.reseen (base:=base) hbase ho1 hob'
 have e1:(⟨(H.push ⟨t,o⟩ (.arr t T [])).t,(H.push ⟨t,o⟩ (.arr t T [])).o.set k (some (.arr v T' (cs.set p (.sl o.length t 0 sz 0 none))))⟩:H)=⟨t+1,o.set k (some (.arr v T' (cs.set p (.sl o.length t 0 sz 0 none))))++[some (.arr t T [])]⟩:=by
  simp [H.push,List.set_append,hk]
 rw [e1] at R2 S2
 exact ⟨I,_,R2,S1.trans S2,by simp; have:base≤o.length:=hb; omega⟩
end Go.Am
namespace Go.Am
open Go Go.RowKit Go.WideShapes Go.ChangeShapes
def QuO (P:Program) (t:TypeId):Bool:=(Qav P t).getD false
def toV:Bool→List V→V
 | true,l=>.agg l
 | false,l=>l.getD 0 .any
def VTs (R:TypeId→List V→Prop):List Field→List V→Prop
 | [],l=>l=[]
 | f::r,l=>∃ l1 l2,l=l1++l2∧R f.type l1∧VTs R r l2
def VT (P:Program):Nat→TypeId→List V→Prop
 | 0,_,_=>False
 | n+1,t,l=>match P.underlying t with
   | some .bool=>∃ b,l=[.bool b]
   | some (.int k)=>∃ i,l=[.int k i]∧(Lit.int k i).wf=true
   | some .string=>∃ s,l=[.str s]∧s.length≤maxLen
   | some (.slice e)=>∃ q:List (List V),l=[.lst (P.cellsOf e) (q.map (toV (QuO P e))) false]∧q.length≤maxLen∧∀ x∈q,VT P n e x
   | some (.struct fs)=>VTs (VT P n) fs.toList l
   | _=>False
def Qqa (P:Program):Nat→List Field→Option Nat
 | o,[]=>some o
 | o,f::r=>if f.offset=o then Qqa P (o+P.cellsOf f.type) r else none
def QuK (P:Program):Nat→TypeId→Bool
 | 0,_=>false
 | n+1,t=>match P.underlying t with
   | some .bool=>true
   | some (.int _)=>true
   | some .string=>true
   | some (.slice e)=>QuK P n e&&decide (0<P.cellsOf e)
   | some (.struct fs)=>Qqa P 0 fs.toList==some (P.cellsOf t)&&fs.toList.all fun f=>QuK P n f.type
   | _=>false
def QaA (w:World):Imm:=fun b o=>(w.cell? ⟨b,o,none⟩).filter fun x=>x.oneCell'
def Rl (I:Imm) (l:List V) (cs:List Value):Prop:=l.length=cs.length∧∀ (j:Nat) (v:V) (x:Value),l[j]?=some v→cs[j]?=some x→VR I noNames v x∧one x
theorem Rl.append {I l1 l2 c1 c2} (h1:Rl I l1 c1) (h2:Rl I l2 c2):Rl I (l1++l2) (c1++c2):=by
 refine ⟨by simp [h1.1,h2.1],fun j v x hv hx=>?_⟩
 by_cases hj:j<l1.length
 ·rw [List.getElem?_append_left hj] at hv
  rw [List.getElem?_append_left (by rw [← h1.1]; exact hj)] at hx
  exact h1.2 j v x hv hx
 ·rw [List.getElem?_append_right (by omega)] at hv
  rw [List.getElem?_append_right (by rw [← h1.1]; omega),← h1.1] at hx
  exact h2.2 _ v x hv hx
theorem Rl.one {I v x} (h:VR I noNames v x) (h1:Am.one x):Rl I [v] [x]:=by
 refine ⟨rfl,fun j v' x' hv hx=>?_⟩
 cases j with
 | zero=>simp at hv hx; subst hv; subst hx; exact ⟨h,h1⟩
 | succ j=>simp at hv
theorem QpI {α:Type} {p:Nat→α→Prop}:∀ n,(∀ i,i<n→∃ x,p i x)→∃ q:List α,q.length=n∧∀ i x,q[i]?=some x→p i x
 | 0,_=>⟨[],rfl,fun i x h=>by simp at h⟩
 | n+1,h=>by
   obtain ⟨q,hq,h1⟩:=QpI n fun i hi=>h i (by omega)
   obtain ⟨x,hx⟩:=h n (by omega)
   refine ⟨q++[x],by simp [hq],fun i y hy=>?_⟩
   by_cases hi:i<n
   ·rw [List.getElem?_append_left (by omega)] at hy; exact h1 i y hy
   ·by_cases he:i=n
    ·subst he
     rw [List.getElem?_append_right (by omega)] at hy
     simp [hq] at hy
     subst hy; exact hx
    ·rw [List.getElem?_append_right (by omega)] at hy
     have:(i - q.length)≠0:=by omega
     obtain ⟨k,hk⟩:=Nat.exists_eq_succ_of_ne_zero this
     rw [hk] at hy; simp at hy
variable {l:List V}
theorem QyI (P:Program) {n:Nat} {t:TypeId} (h:VT P n t l) (ha:QuO P t=false):∃ v,l=[v]∧v.cells=[v]:=by
 cases n with
 | zero=>exact h.elim
 | succ n =>
   simp only [VT] at h
   split at h
   ·obtain ⟨b,rfl⟩:=h; exact ⟨_,rfl,rfl⟩
   ·obtain ⟨i,rfl,_⟩:=h; exact ⟨_,rfl,rfl⟩
   ·obtain ⟨s,rfl,_⟩:=h; exact ⟨_,rfl,rfl⟩
   ·obtain ⟨q,rfl,_⟩:=h; exact ⟨_,rfl,rfl⟩
   ·rename_i fs hu
    simp [QuO,Qav,hu,QyY] at ha
   ·exact h.elim
theorem QwM (P:Program) {n:Nat} {t:TypeId} (h:VT P n t l):(toV (QuO P t) l).cells=l:=by
 cases ha:QuO P t with
 | true=>rfl
 | false =>
   obtain ⟨v,rfl,hv⟩:=QyI P h ha
   simpa [toV] using hv
section
variable {H:Type} {enc:TypeId × Value→H} {P:Program} {w:World}
theorem QqG {n m:Nat} (ih:∀ (t:TypeId) (cs:List Value) (x:DataW H × List MemPlace),QuK P n t=true→DataW.trod enc P w 0 (fun _=>true) true m t cs=some x→∃ l,VT P n t l∧Rl (QaA w) l cs) {cs:List Value} :
 ∀ (fs:List Field) (o:Nat),Qqa P o fs=some cs.length→(∀ f∈fs,QuK P n f.type=true∧∃ y,DataW.trod enc P w 0 (fun _=>true) true m f.type ((cs.drop f.offset).take (P.cellsOf f.type))=some y)→∃ l,VTs (VT P n) fs l∧Rl (QaA w) l (cs.drop o)
 | [],o,hc,_=>by
   simp [Qqa] at hc
   exact ⟨[],rfl,by subst hc; simp,fun j v x h=>by simp at h⟩
 | f::r,o,hc,hf=>by
   simp only [Qqa] at hc
   split at hc
   ·rename_i ho
    obtain ⟨hv,y,hy⟩:=hf f (by simp)
    obtain ⟨l1,g1,g2⟩:=ih _ _ _ hv hy
    obtain ⟨l2,g3,g4⟩:=QqG ih r _ hc fun f' h'=>hf f' (by simp [h'])
    refine ⟨l1++l2,⟨l1,l2,rfl,g1,g3⟩,?_⟩
    have:cs.drop o=(cs.drop f.offset).take (P.cellsOf f.type)++cs.drop (o+P.cellsOf f.type):=by
     rw [ho,← List.drop_drop,List.take_append_drop]
    rw [this]
    exact g2.append g4
   ·cases hc
theorem QMB:∀ (n:Nat) (m:Nat) (t:TypeId) (cs:List Value) (x:DataW H × List MemPlace),QuK P n t=true→DataW.trod enc P w 0 (fun _=>true) true m t cs=some x→∃ l,VT P n t l∧Rl (QaA w) l cs:=by
 intro n
 induction n with
 | zero=>intro m t cs x h; simp [QuK] at h
 | succ n ih =>
   intro m t cs x h ht
   simp only [QuK] at h
   simp only [VT]
   split at h
   ·rename_i hu
    obtain ⟨b,rfl,_⟩:=DataW.trod_bool hu ht
    exact ⟨_,⟨b,rfl⟩,Rl.one (.bool _ _) rfl⟩
   ·rename_i k hu
    obtain ⟨i,rfl,_,hw⟩:=DataW.trod_int hu ht
    exact ⟨_,⟨i,rfl,hw⟩,Rl.one (.int _ _ _) rfl⟩
   ·rename_i hu
    obtain ⟨s,rfl,_,hw⟩:=DataW.trod_string hu ht
    refine ⟨_,⟨s.data.toList,rfl,by simpa using hw⟩,Rl.one ?_ rfl⟩
    have:Value.string s=.string ⟨s.data.toList.toArray⟩:=by simp
    rw [this]
    exact .str _ _
   ·rename_i e hu
    simp only [Bool.and_eq_true,decide_eq_true_eq] at h
    obtain ⟨he,hsz⟩:=h
    rcases DataW.trod_slice hu ht with ⟨rfl,_⟩ | ⟨a,len,cap,elems,rest,m',_,rfl,_,_,hl,hm,hlen,hel,_,_⟩
    ·exact ⟨_,⟨[],rfl,Nat.zero_le _,by simp⟩,Rl.one (.lstN _ _ _ _ _ (by simp)) rfl⟩
    ·have each:∀ i,i<len→∃ lc:List V × List Value,w.cells? 0 (a.add (i * P.cellsOf e)) (P.cellsOf e)=some lc.2∧VT P n e lc.1∧Rl (QaA w) lc.1 lc.2:=fun i hi=>by
      have h1:=hel i hi
      rw [List.getElem?_eq_getElem (by omega),Option.bind_eq_some_iff] at h1
      obtain ⟨cs,hcs,htr⟩:=h1
      obtain ⟨l,hl1,hl2⟩:=ih m' e cs _ he htr
      exact ⟨(l,cs),hcs,hl1,hl2⟩
     obtain ⟨q,hq,hqe⟩:=QpI len each
     refine ⟨_,⟨q.map (·.1),rfl,by simp; omega,fun x hx=>?_⟩,Rl.one ?_ rfl⟩
     ·obtain ⟨p,hp,rfl⟩:=List.mem_map.1 hx
      obtain ⟨i,hi⟩:=List.getElem?_of_mem hp
      exact (hqe i p hi).2.1
     ·simp only [List.map_map]
      cases hz:q with
      | nil =>
        have h0:len=0:=by rw [← hq,hz]; rfl
        subst h0
        exact .lstN _ _ _ _ _ (by simp)
      | cons p0 q' =>
        have hpos:0<len:=by rw [← hq,hz]; simp
        rw [← hz]
        obtain ⟨b,o,sp⟩:=a
        have hsp:sp=none:=by
         obtain ⟨hcs,_,_⟩:=hqe 0 p0 (by simp [hz])
         have h1:=(World.cells?_some hcs).2.2 0 hsz
         have h2:=(World.cells?_some hcs).2.1
         rw [List.getElem?_eq_getElem (by omega)] at h1
         simp [Addr.add,World.cell?] at h1
         split at h1
         ·split at h1
          ·cases h1
          ·rename_i h3; simpa using h3
         ·cases h1
        subst hsp
        have key:∀ (j:Nat) (p:List V × List Value),q[j]?=some p→∀ (i:Nat) (c:V),p.1[i]?=some c→QaA w b (o+j * P.cellsOf e+i)=some ((w.cell? ⟨b,o+j * P.cellsOf e+i,none⟩).getD default)∧VR (QaA w) noNames c ((w.cell? ⟨b,o+j * P.cellsOf e+i,none⟩).getD default):=by
         intro j p hp i c hc
         obtain ⟨hcs,_,hR⟩:=hqe j p hp
         have hlen1:=(World.cells?_some hcs).2.1
         have hil:i<P.cellsOf e:=by
          have:=(List.getElem?_eq_some_iff.1 hc).1
          rw [hR.1,hlen1] at this; exact this
         have h1:=(World.cells?_some hcs).2.2 i hil
         have hadd:((⟨b,o,none⟩:Addr).add (j * P.cellsOf e)).add i=⟨b,o+j * P.cellsOf e+i,none⟩:=by
          unfold Addr.add
          by_cases h1:j * P.cellsOf e=0 <;> by_cases h2:i=0 <;> simp [h1,h2]
         rw [hadd,List.getElem?_eq_getElem (by omega)] at h1
         obtain ⟨g1,g2⟩:=hR.2 i c _ hc (List.getElem?_eq_getElem (by omega))
         rw [h1]
         refine ⟨?_,by simpa using g1⟩
         unfold QaA
         rw [h1]
         simp [Option.filter]
         exact g2
        have toV_c:∀ (j:Nat) (v:V),(q.map (toV (QuO P e) ∘ (·.1)))[j]?=some v→∃ p,q[j]?=some p∧v.cells=p.1:=by
         intro j v hv
         rw [List.getElem?_map] at hv
         obtain ⟨p,hp,rfl⟩:=Option.map_eq_some_iff.1 hv
         exact ⟨p,hp,QwM P (hqe j p hp).2.1⟩
        have hl2:(q.map (toV (QuO P e) ∘ (·.1))).length=len:=by simp [hq]
        rw [← hl2]
        refine .lst _ _ _ _ b o cap (fun j i=>(w.cell? ⟨b,o+j * P.cellsOf e+i,none⟩).getD default) (by simp [hz]) (by rw [hl2]; exact hl) (by simp) ?_ ?_ ?_
        ·intro j v hv
         obtain ⟨p,hp,hc⟩:=toV_c j v hv
         obtain ⟨hcs,_,hR⟩:=hqe j p hp
         rw [hc,hR.1,(World.cells?_some hcs).2.1]
        ·intro j v hv i c hc
         obtain ⟨p,hp,hcc⟩:=toV_c j v hv
         rw [hcc] at hc
         exact (key j p hp i c hc).1
        ·intro j v hv i c hc
         obtain ⟨p,hp,hcc⟩:=toV_c j v hv
         rw [hcc] at hc
         exact (key j p hp i c hc).2
   ·rename_i fs hu
    simp only [Bool.and_eq_true,beq_iff_eq,List.all_eq_true] at h
    obtain ⟨xs,m',rfl,_,hcl,hxl,hx⟩:=DataW.trod_struct hu ht
    obtain ⟨l,h1,h2⟩:=QqG (m:=m') (fun t cs x=>ih m' t cs x) (cs:=cs) fs.toList 0 (by rw [h.1,hcl]) fun f hf=>by
     refine ⟨h.2 f hf,?_⟩
     obtain ⟨i,hi⟩:=List.getElem?_of_mem hf
     have hi':fs[i]?=some f:=by simpa using hi
     have h3:=hx i f hi'
     have:i<fs.size:=(Array.getElem?_eq_some_iff.1 hi').1
     rw [List.getElem?_eq_getElem (by omega)] at h3
     exact ⟨_,h3⟩
    exact ⟨l,h1,by simpa using h2⟩
   ·cases h
def QBa (P:Program) (n:Nat):List TypeId→List V→Prop
 | [],l=>l=[]
 | t::ts,l=>∃ (c:List V) (r:List V),l=toV (QuO P t) c::r∧VT P n t c∧QBa P n ts r
theorem absVal {n:Nat} {t:TypeId} {v:Value} {d:DataW H} {ps:List MemPlace} {base:Nat} (h:QuK P n t=true) (hval:Value.okWide P w .any base t v) (hd:DataW.Trod enc P w 0 (fun _=>true) true t v d ps) :
 ∃ l,VT P n t l∧VR (QaA w) noNames (toV (QuO P t) l) v:=by
 obtain ⟨m,hm⟩:=hd
 obtain ⟨l,h1,h2⟩:=QMB n m t _ _ h hm
 refine ⟨l,h1,?_⟩
 cases ha:QuO P t with
 | true =>
   cases n with
   | zero=>exact h1.elim
   | succ n =>
     simp only [VT] at h1
     split at h1 <;> (rename_i hu; simp [QuO,Qav,hu,QyY] at ha; try exact h1.elim)
     simp only [Value.okWide,hu] at hval
     obtain ⟨cs,rfl,_,_⟩:=hval
     refine .agg _ _ _ (by rw [h2.1]; simp [Value.cells]) fun j u x hu hx=>(h2.2 j u x hu ?_).1
     simpa [Value.cells] using hx
 | false =>
   obtain ⟨u,rfl,_⟩:=QyI P h1 ha
   have hl:v.cells.size=1:=by have:=h2.1; simpa using this.symm
   have hv:v.cells=#[v]:=by
    cases v with
    | agg cs =>
      exfalso
      cases n with
      | zero=>exact h1.elim
      | succ n =>
        simp only [VT] at h1
        split at h1 <;> rename_i hu <;> first | (simp [Value.okWide,hu,Cell.okWide,Cell.ok] at hval; done) | (simp [QuO,Qav,hu,QyY] at ha; done) | exact h1.elim
    | _=>rfl
   rw [hv] at h2
   exact (h2.2 0 u v rfl rfl).1
theorem QyJ {n:Nat} {base:Nat}:∀ {ts:List TypeId} {vs:List Value} {ds:List (DataW H)} {ps:List MemPlace},(∀ t∈ts,QuK P n t=true)→(∀ (j:Nat) t v,ts[j]?=some t→vs[j]?=some v→Value.okWide P w .any base t v) →
 DataW.TrodAll enc P w 0 (fun _=>true) true ts vs ds ps→∃ l,QBa P n ts l∧l.length=vs.length∧∀ (j:Nat) (v:V) (x:Value),l[j]?=some v→vs[j]?=some x→VR (QaA w) noNames v x
 | [],[],[],_,_,_,_=>⟨[],rfl,rfl,fun j v x h=>by simp at h⟩
 | t::ts,v::vs,d::ds,ps,hok,hval,⟨p,q,h1,h2,_⟩=>by
   obtain ⟨c,hc,hr⟩:=absVal (hok t (by simp)) (hval 0 t v rfl rfl) h1
   obtain ⟨r,g1,g2,g3⟩:=QyJ (fun t' h'=>hok t' (by simp [h'])) (fun j t' v' a b=>hval (j+1) t' v' (by simpa using a) (by simpa using b)) h2
   refine ⟨_,⟨c,r,rfl,hc,g1⟩,by simp [g2],fun j u x hu hx=>?_⟩
   cases j with
   | zero=>simp at hu hx; subst hu; subst hx; exact hr
   | succ j=>exact g3 j u x (by simpa using hu) (by simpa using hx)
 | [],_::_,_,_,_,_,h=>h.elim
 | [],[],_::_,_,_,_,h=>h.elim
 | _::_,[],_,_,_,_,h=>h.elim
 | _::_,_::_,[],_,_,_,h=>h.elim
theorem Qo0 {W W':World} (hl:laidOutB P=true) (hb:Below W.heap.size W W') {sp:Nat→Bool}:∀ {ts:List TypeId} {vs:List Value} {ds:List (DataW H)} {ps:List MemPlace},(∀ t∈ts,P.readableRec t=true∧t<P.types.size) →
 DataW.TrodAll enc P W 0 (fun _=>true) true ts vs ds ps→(∀ p∈ps,p.block<W.heap.size)→(∀ p∈ps,sp p.block=true)→DataW.TrodAll enc P W' 0 sp true ts vs ds ps
 | [],[],[],_,_,h,_,_=>h
 | t::ts,v::vs,d::ds,ps,hr,⟨p,q,h1,h2,e⟩,hlt,hs=>by
   subst e
   exact ⟨p,q,WideElems.Trod_stays hl (hr t (by simp)).1 (hr t (by simp)).2 h1 (fun x hx=>hb.same (hlt x (by simp [hx]))) (fun x hx=>hs x (by simp [hx])),Qo0 hl hb (fun t' h'=>hr t' (by simp [h'])) h2 (fun x hx=>hlt x (by simp [hx])) (fun x hx=>hs x (by simp [hx])),rfl⟩
 | [],_::_,_,_,_,h,_,_=>h.elim
 | [],[],_::_,_,_,h,_,_=>h.elim
 | _::_,[],_,_,_,h,_,_=>h.elim
 | _::_,_::_,[],_,_,h,_,_=>h.elim
end
theorem Qud {w:World} {b o:Nat} {x:Value} (h:QaA w b o=some x):w.cell? ⟨b,o,none⟩=some x∧one x:=by
 unfold QaA at h
 rw [Option.filter_eq_some_iff] at h
 exact h
theorem relOf {G:Nat→Option V} {w:World} (hG:∀ g x,G g=some x→VR (QaA w) noNames (.ref x 0) (.pointer (some ⟨g,0,none⟩))∧Gv w g x) (t:Nat):Rel G (QaA w) noNames ⟨t,[]⟩ w where
 objs:=fun n ob h=>by simp at h
 fresh:=fun n v l h=>by cases h
 sep:=fun n m b h=>by simp [blk] at h
 imm:=fun b o x h=>Qud h
 immsep:=fun n b h=>by simp [blk] at h
 globs:=hG
section
variable {H:Type} {enc:TypeId × Value→H} {P:Program} {before:List MemPlace}
theorem QuC {f:Func} {s:ChangeSpec} {apart fresh handsOn again:Bool} {W W':World} {args:Array Value} {v:Value} {ds gs:List (DataW H)} {pa pv:List MemPlace}
 (hW:DataW.Whole enc P f.params.toList s.vars apart W args.toList ds gs before)
 (hres:∀ (b:Nat) (sp:Nat→Bool) (hd:Bool),DataW.TrodAll enc P W' b sp hd f.resultTypes.toList (v.resultList f.resultTypes.size) (s.fn H (ds++gs)).results [])
 (hargs:∀ sp:Nat→Bool,(∀ p∈before,sp p.block=true)→DataW.TrodAll enc P W' 0 sp true f.params.toList args.toList (s.fn H (ds++gs)).args pa)
 (hvars:∀ sp:Nat→Bool,(∀ p∈before,sp p.block=true)→DataW.TrodVars enc P W' sp s.vars (s.fn H (ds++gs)).vars pv)
 (hps:before=pa++pv) (hb:Below W.heap.size W W')
 (hok:∀ (j:Nat) (t:TypeId) (r:Value),f.resultTypes[j]?=some t→(v.resultList f.resultTypes.size)[j]?=some r→Value.okWide P W' .any 0 t r) :
 s.post enc P f apart fresh handsOn again W args v W':=by
 have hlt:∀ p∈before,p.block<W.heap.size:=fun p hp=>hW.lt p hp
 have hold:∀ p∈before,(fun b=>decide (b<W.heap.size)) p.block=true:=fun p hp=>by simpa using hlt p hp
 refine ⟨ds,gs,before,[],pa,pv,hW,hres _ _ _,hargs _ hold,hvars _ hold,World.keptBut_mono (fun p hp=>⟨hp,?_⟩) (hb.frame (·∈before)),fun _=>?_⟩
 ·rw [hps,List.mem_append] at hp
  exact Or.inr hp
 ·obtain ⟨_,_,_,_,_,hz,hn⟩:=hW
  refine ⟨hok,_,_,([]++pa)++pv,⟨[]++pa,pv,trodAll_append (hargs _ (fun _ _=>rfl)) (hres _ _ _),hvars _ (fun _ _=>rfl),rfl,?_,?_⟩,?_⟩
  ·intro b off hp
   have hin:MemPlace.cell b off∈before:=by rw [hps]; simpa using hp
   rw [hb.frozen (hlt _ hin)]
   exact hz b off hin
  ·intro ha
   have:=hn ha
   rw [hps] at this
   simpa using this
  ·intro p hp _
   rw [hps]
   simpa using hp
theorem QkL {w:World} {base:Nat} {sp:Nat→Bool} {hd:Bool}:∀ {ts:List TypeId} {vs:List Value} {ds:List (DataW H)} {ps:List MemPlace},DataW.TrodAll enc P w base sp hd ts vs ds ps→ts.length=vs.length∧ds.length=ts.length
 | [],[],[],_,_=>⟨rfl,rfl⟩
 | t::ts,v::vs,d::ds,ps,⟨p,q,h1,h2,e⟩=>by
   obtain ⟨a,b⟩:=QkL h2
   exact ⟨by simp [a],by simp [b]⟩
 | [],_::_,_,_,h=>h.elim
 | [],[],_::_,_,h=>h.elim
 | _::_,[],_,_,h=>h.elim
 | _::_,_::_,[],_,h=>h.elim
theorem law {f:FuncId} {fn:Func} {n:Nat} {s:ChangeSpec} {tb:TypeId} {G:Nat→Option V} (QLC:laidOutB P=true) (Qnl:∀ t∈fn.params.toList,QuK P n t=true∧P.readableRec t=true∧t<P.types.size)
 (hres:fn.resultTypes=#[tb]) (hbool:P.underlying tb=some .bool) (hvars:s.vars=[]) (hfn:∀ ds:List (DataW H),ds.length=fn.params.toList.length→s.fn H ds={ results:=[.lit (.bool true)],args:=ds })
 (hC:∀ l:List V,QBa P n fn.params.toList l→C P G 0 f l ⟨0,[]⟩ fun v _=>v=.bool true)
 {W:World} {base:Nat} {args:Array Value} {ds gs:List (DataW H)} (hG:∀ g x,G g=some x→VR (QaA W) noNames (.ref x 0) (.pointer (some ⟨g,0,none⟩))∧Gv W g x)
 (hval:∀ (j:Nat) t v,fn.params[j]?=some t→args[j]?=some v→Value.okWide P W .any base t v)
 (hW:DataW.Whole enc P fn.params.toList s.vars false W args.toList ds gs before) :
 Calls P f args W fun e W'=>∃ v,e=.returned v∧s.post enc P fn false true false false W args v W':=by
 have hW':=hW
 obtain ⟨p,q,hA,hV,rfl,hfz,hnd⟩:=hW
 rw [hvars] at hV
 have hgs:gs=[]∧q=[]:=by
  cases gs with
  | nil=>exact ⟨rfl,hV⟩
  | cons g gs=>exact hV.elim
 obtain ⟨rfl,rfl⟩:=hgs
 obtain ⟨hlen,hdl⟩:=QkL hA
 obtain ⟨l,hl1,hl2,hl3⟩:=QyJ (n:=n) (base:=base) (fun t ht=>(Qnl t ht).1) (fun j t v h1 h2=>hval j t v (by simpa using h1) (by simpa using h2)) hA
 have hc:Cells (QaA W) noNames l args:=⟨by rw [hl2]; simp,fun j v x h1 h2=>hl3 j v x h1 (by simpa using h2)⟩
 refine (hC l hl1 _ _ _ _ (relOf hG 0) (Nat.zero_le _) hc).mono fun e W' ⟨v,x,I',ρ',σ',h1,h2,h3,h4,h5,h6⟩=>?_
 subst h6
 cases h2
 have hb:Below W.heap.size W W':=⟨h4.os,h4.tape,h4.output,h4.size,fun b hb=>h4.keep b hb fun n _=>by simp [blk]⟩
 have hlt:∀ x∈p,x.block<W.heap.size:=fun x hx=>hW'.lt x (by simpa using hx)
 have hds:s.fn H (ds++[])={ results:=[.lit (.bool true)],args:=ds }:=by rw [List.append_nil]; exact hfn ds hdl
 refine ⟨_,h1,QuC (pa:=p) (pv:=[]) hW' ?_ ?_ ?_ rfl hb (ok_one hres rfl (okWide_bool_mk hbool _))⟩
 ·intro b sp hd
  rw [hds,hres]
  exact trodAll_cons_mk (shut_bool hbool _) trodAll_mk0
 ·intro sp hs
  rw [hds]
  exact Qo0 QLC hb (fun t ht=>(Qnl t ht).2) hA hlt fun x hx=>hs x (by simpa using hx)
 ·intro sp hs
  rw [hds,hvars]
  rfl
end
end Go.Am
namespace Go.Am
open Go Go.RowKit
variable {P:Program} {G:Nat→Option V}
theorem Qo7 {f:FuncId} {args:List V} {Q:V→Prop} (h:C P G 0 f args ⟨0,[]⟩ fun v _=>Qf v=true∧Q v) (hn:Qc args=true):Pure P G f args Q:=by
 intro t I ρ w xs hR hb hc
 have hR0:Rel G I noNames ⟨0,[]⟩ w:=⟨fun n ob h=>(by simp at h),fun n v l h=>(by cases h),fun n m b h=>(by simp [blk] at h),hR.imm,fun n b h=>(by simp [blk] at h),hR.globs⟩
 have hc0:Cells I noNames args xs:=⟨hc.1,fun j v x h1 h2=>(hc.2 j v x h1 h2).noNames (X4 hn v (List.mem_of_getElem? h1))⟩
 refine (h I noNames w xs hR0 (Nat.zero_le _) hc0).mono fun e w' ⟨v,x,I',ρ',σ',h1,h2,h3,h4,h5,h6,h7⟩=>?_
 have hold:∀ b,b<w.heap.size→w'.heap[b]?=w.heap[b]?:=fun b hlt=>h4.keep b hlt fun n _=>by simp [blk]
 have himm:∀ b o,I b o=none→I' b o≠none→w.heap.size≤b:=fun b o hI hI'=>(h4.immed b o hI hI').elim id fun ⟨m,_,hm⟩=>by simp [blk] at hm
 exact ⟨v,x,I',ρ,⟨t,[]⟩,h1,(h2.noNames h6).mono (Imm.le.refl _) (fun _ _ _ h=>by cases h),⟨fun n ob ho=>by simp at ho,hR.fresh,fun n m b h=>by simp [blk] at h,h3.imm,fun n b e o=>by simp [blk] at e,h3.globs⟩,
  ⟨h4.os,h4.tape,h4.output,h4.size,.refl _,h4.imms,Nat.le_refl _,fun _ _ _ h=>.inl h,fun b hlt _=>hold b hlt,fun n b hnb e=>.inr ⟨n,hnb,e⟩,fun b o hI hI'=>.inl (himm b o hI hI'),fun _ _=>.inl rfl⟩,Nat.zero_le _,h6,h7⟩
theorem run_pure {T:Nat→Option AF} (hT:Qe P T) (fuel k:Nat) {f:FuncId} {args:List V} (v0:V) (eqb:V→Bool) (he:∀ v,eqb v=true→Qf v=true∧v=v0) (hn:Qc args=true)
 (h:xF G T fuel k 0 f args ⟨0,[]⟩ (fun v _=>eqb v)=true):Pure P G f args fun v=>v=v0 :=
 Qo7 (by
  have:=(xF_ok P G hT k 0 f args ⟨0,[]⟩ (fun v _=>eqb v) h).2
  intro I ρ w xs hR hb hc
  exact (this I ρ w xs hR hb hc).mono fun e w' ⟨v,x,I',ρ',σ',h1,h2,h3,h4,h5,h6⟩=>⟨v,x,I',ρ',σ',h1,h2,h3,h4,h5,he v h6⟩) hn
theorem QLK (w:World) (k:Nat) (os:Array Obj):Ex w (Go.Sort.grow (w.drewN k) os) :=
 ⟨rfl,rfl,rfl,by simp [Go.Sort.grow,World.drewN],fun b hb=>by
  show ((w.drewN k).heap++os)[b]?=w.heap[b]?
  have:(w.drewN k).heap=w.heap:=rfl
  rw [this,Array.getElem?_append_left hb]⟩
theorem Qm0 {f:FuncId} {args:List V} {Q:V→Prop} (h:∀ (I:Imm) (w:World) (xs:Array Value),(∀ g x,G g=some x→VR I noNames (.ref x 0) (.pointer (some ⟨g,0,none⟩))∧Gv w g x)→(∀ b o x,I b o=some x→w.cell? ⟨b,o,none⟩=some x)→Cells I noNames args xs →
 Calls P f xs w fun e w'=>∃ v x,e=.returned x∧VR I noNames v x∧Qf v=true∧Q v∧Ex w w') (hn:Qc args=true):Pure P G f args Q:=by
 intro t I ρ w xs hR hb hc
 have hc0:Cells I noNames args xs:=⟨hc.1,fun j v x h1 h2=>(hc.2 j v x h1 h2).noNames (X4 hn v (List.mem_of_getElem? h1))⟩
 refine (h I w xs hR.globs (fun b o x hx=>(hR.imm b o x hx).1) hc0).mono fun e w' ⟨v,x,h1,h2,h3,h4,h5⟩=>?_
 exact ⟨v,x,I,ρ,⟨t,[]⟩,h1,h2.mono (Imm.le.refl _) (fun _ _ _ h=>by cases h),hR.ex h5,Step.of_ex h5,hb,h3,h4⟩
def QsM (k:IntKind) (zs:List Int):V:=.agg (zs.map (V.int k))
variable {g:Nat} {k:IntKind} {name:String}
theorem tab_hG {W:World} {zs:List Int} (hg:P.globalNamed name=some g) (h:Lib.TabIs P W name k zs) (hz:0<zs.length) :
 VR (QaA W) noNames (.ref (QsM k zs) 0) (.pointer (some ⟨g,0,none⟩))∧Gv W g (QsM k zs):=by
 have hcell:∀ i,i<zs.length→W.cell? ⟨g,i,none⟩=some (.int k (zs.getD i 0)):=fun i hi=>h.cell hg i hi
 refine ⟨?_,by simpa [QsM,V.cells] using hz,?_⟩
 ·have:=VR.ref (I:=QaA W) noNames (QsM k zs) 0 g 0 (fun j=>.int k (zs.getD j 0)) (fun j c hc=>?_) (fun j c hc=>?_)
  ·simpa using this
  ·simp only [QsM,V.cells,List.getElem?_map,Option.map_eq_some_iff] at hc
   obtain ⟨z,hz,rfl⟩:=hc
   have hj:=(List.getElem?_eq_some_iff.1 hz).1
   simp only [QaA,Nat.zero_add,hcell j hj,Option.filter]
   rfl
  ·simp only [QsM,V.cells,List.getElem?_map,Option.map_eq_some_iff] at hc
   obtain ⟨z,hz,rfl⟩:=hc
   rw [show zs.getD j 0=z from by simp [List.getD_eq_getElem?_getD,hz]]
   exact .int _ _ _
 ·unfold Lib.TabIs World.var? at h
  rw [hg] at h
  simp only [Option.bind_some] at h
  split at h
  ·rename_i cs T m hc
   injection h with h
   exact ⟨cs,T,m,hc,by subst h; simp [QsM,V.cells]⟩
  ·cases h
theorem Qzj {I:Imm} {w:World} {zs:List Int} (hg:P.globalNamed name=some g) (hx:VR I noNames (.ref (QsM k zs) 0) (.pointer (some ⟨g,0,none⟩))) (hv:Gv w g (QsM k zs)) (hI:∀ b o x,I b o=some x→w.cell? ⟨b,o,none⟩=some x):Lib.TabIs P w name k zs:=by
 obtain ⟨_,c,T,m,hc,hs⟩:=hv
 unfold Lib.TabIs World.var?
 rw [hg]
 simp only [Option.bind_some,hc]
 congr 1
 have hs':c.size=zs.length:=by simpa [QsM,V.cells] using hs
 generalize hp:Value.pointer (some ⟨g,0,none⟩)=p at hx
 cases hx with
 | ref _ _ _ b o f g1 g2 =>
   cases hp
   apply Array.ext
   ·simp [hs']
   ·intro j h1 h2
    have hj:(QsM k zs).cells[j]?=some (V.int k zs[j]):=by simp [QsM,V.cells]
    have e1:=hI _ _ _ (g1 j _ hj)
    have e2:=g2 j _ hj
    simp only [World.cell?,hc,Nat.zero_add] at e1
    rw [Array.getElem?_eq_getElem h1] at e1
    simp at e1
    rw [e1]
    generalize f j=y at e2
    cases e2
    simp
def Qru (i:Int):List UInt8:=if -9223372036854775808≤i∧i≤9223372036854775807 then Lib.itoa i else []
theorem QAv (i:Int):(Qru i).length≤24:=by
 unfold Qru
 split
 ·rename_i h; have:=Lib.itoa_length_le i h.1 h.2; omega
 ·simp
variable {i:Int}
theorem QsY {f:FuncId} {rest:List V} {restX:List Value} {kt:IntKind} {zs:List Int} (hg:P.globalNamed name=some g) (hG:G g=some (QsM kt zs)) (s:List UInt8)
 (hrest:∀ (I:Imm) (xs:Array Value),Cells I noNames (.int k i::rest) xs→xs=(.int k i::restX).toArray) (hn:Qc rest=true)
 (h:∀ w,Lib.TabIs P w name kt zs→Calls P f (.int k i::restX).toArray w fun e w'=>e=.returned (.string ⟨s.toArray⟩)∧∃ k os,w'=Go.Sort.grow (w.drewN k) os):Pure P G f (.int k i::rest) fun v=>v=.str s:=by
 refine Qm0 (fun I w xs hV hI hc=>?_) (by simp [Qc,Qf,hn])
 rw [hrest I xs hc]
 refine (h w (Qzj hg (hV g _ hG).1 (hV g _ hG).2 hI)).mono fun e w' ⟨he,kk,os,hw⟩=>?_
 subst hw
 exact ⟨.str s,_,he,.str _ _,rfl,rfl,QLK _ _ _⟩
variable {xs:Array Value}
theorem Quy {I:Imm} (h:Cells I noNames [.int k i] xs):xs=#[.int k i]:=by
 obtain ⟨h1,h2⟩:=h
 have h1:xs.size=1:=h1.symm
 apply Array.ext
 ·simp [h1]
 ·intro j hj hj'
  have:j=0:=by omega
  subst this
  have:=h2 0 _ xs[0] rfl (Array.getElem?_eq_getElem hj)
  generalize xs[0]=y at this
  cases this
  rfl
theorem Qux {I:Imm} {k':IntKind} {i':Int} (h:Cells I noNames [.int k i,.int k' i'] xs):xs=#[.int k i,.int k' i']:=by
 obtain ⟨h1,h2⟩:=h
 have h1:xs.size=2:=h1.symm
 apply Array.ext
 ·simp [h1]
 ·intro j hj hj'
  have:j=0∨j=1:=by omega
  rcases this with rfl | rfl
  ·have:=h2 0 _ xs[0] rfl (Array.getElem?_eq_getElem hj)
   generalize xs[0]=y at this
   cases this
   rfl
  ·have:=h2 1 _ xs[1] rfl (Array.getElem?_eq_getElem hj)
   generalize xs[1]=y at this
   cases this
   rfl
end Go.Am
namespace Go.Am
open Go
variable {P:Program} {G:Nat→Option V}
theorem Zv {n base:Nat} {x:AC} {s:List KI} {Q:AE→Fr→H→Prop} (J:Nat→Fr→H→Prop) (E:AE→Fr→H→Prop) {m0:Nat} {fr0:Fr} {σ0:H} (h0:J m0 fr0 σ0)
 (round:∀ m fr σ,J m fr σ→W P G n base x fr σ (Qbb (fun fr σ=>∃ m' fr' σ',m'<m∧Shift G n base fr σ fr' σ'∧J m' fr' σ') E))
 (after:∀ e fr σ,E e fr σ→sem P G n base Q s e fr σ) :
 sem P G n base Q (.ac (.loop x)::s) .nrm fr0 σ0:=W_inv J (fun m fr σ hJ=>(round m fr σ hJ).conseq fun e fr σ h=>by
  cases e with
  | nrm=>exact h
  | ex id=>exact after _ _ _ h
  | ret=>exact after _ _ _ h) h0
variable {base':Nat} {A:AF} {T:Nat→Option AF}
theorem Qy (hT:Qe P T) {f:Nat} (hf:T f=some A) {n base:Nat} {Q:AE→Fr→H→Prop} {t:AT} {d:Option Nat} {dead:List Nat} {s:List KI} {fr:Fr} {args:List V} {σ:H} {v0:V}
 (h:Pure P G f args fun v=>v=v0) (hn:Qc args=true) (fuel:Nat) (k:run P G n base Q fuel (.at t dead::s) .nrm (fput fr d v0) σ):CV P G base' (.fn (.func f) [] []) args σ (kC P G n base Q d t dead s fr) :=
 Qqk hT hf h hn fuel fun v hv=>by rw [hv]; exact k
theorem callK (hT:Qe P T) {f:Nat} (hf:T f=some A) {n base:Nat} {Q:AE→Fr→H→Prop} {t:AT} {d:Option Nat} {dead:List Nat} {s:List KI} {fr:Fr} {args cap:List V} {σ:H} {R:V→H→Prop}
 (h:C P G base' f (args++cap) σ R) (fuel:Nat) (k:∀ v σ',R v σ'→run P G n base Q fuel (.at t dead::s) .nrm (fput fr d v) σ'):CV P G base' (.fn (.func f) [] cap) args σ (kC P G n base Q d t dead s fr) :=
 QtL hT hf (by rw [List.nil_append]; exact h.conseq fun v σ' hq=>Qg fuel (k v σ' hq))
theorem C.wk {base f:Nat} {args:List V} {σ:H} {Q:V→H→Prop} (hb:base≤base') (hl:base'≤σ.o.length) (h:C P G base' f args σ Q):C P G base f args σ Q :=
 fun I ρ w xs hR _ hc=>(h I ρ w xs hR hl hc).mono fun e w' ⟨v,x,I',ρ',σ',h1,h2,h3,h4,h5,h6⟩=>⟨v,x,I',ρ',σ',h1,h2,h3,h4.weaken hR hb,by omega,h6⟩
theorem QBd {base f:Nat} {args:List V} {σ:H} {Q Q2:V→H→Prop} (h:C P G base f args σ Q)
 (k:∀ v σ',Q v σ'→∃ k v' T cs,base≤k∧σ'.o[k]?=some (some (.arr v' T cs))∧Qc cs=true∧Q2 (Zw k v' cs v) ⟨σ'.t,Q6 (Zw k v' cs) base (σ'.o.set k none)⟩):C P G base f args σ Q2:=by
 intro I ρ w xs hR hb hc
 refine (h I ρ w xs hR hb hc).mono fun e w' ⟨v,x,I',ρ',σ',h1,h2,h3,h4,h5,h6⟩=>?_
 obtain ⟨k,v',T,cs,hbase,ho,hn,hq⟩:=k v σ' h6
 obtain ⟨I2,hle,k1,k2,k3⟩:=h3.freeze hbase ho hn
 have hc:∀ u∈cs,u.cells=[u]:=fun u hu=>by
  obtain ⟨j,hj⟩:=List.mem_iff_getElem?.1 hu
  rcases h3.objs k _ ho with ⟨_,h0⟩ | ⟨b,o,e,c,lo,hi,_,_,_,_,_,g⟩
  ·rw [h0] at hu; cases hu
  ·obtain ⟨x,g1,g2,g3⟩:=g j u hj
   cases g2 <;> first | rfl | (simp [one,Value.oneCell'] at g3; done)
 have hF:QBb I2 ρ' k v' cs:=⟨hc,k3⟩
 obtain ⟨q1,q2⟩:=Rel.mapV (base:=base) k1 (g:=Zw k v' cs) (fun u x hu=>hu.frz hF)
 exact ⟨_,x,I2,ρ',_,h1,VR.frz hF (h2.mono hle (Names.le.refl _)),q1,h4.trans (k2.trans q2),by rw [QW]; simpa using h5,hq⟩
theorem QAA (w:World) (n:Nat) (os:Array Obj):Ex w (Go.Sort.grow (Go.Sort.ahead w n) os) :=
 ⟨rfl,rfl,rfl,by simp [Go.Sort.grow,Go.Sort.ahead],fun b hb=>by
  show ((Go.Sort.ahead w n).heap++os)[b]?=w.heap[b]?
  have:(Go.Sort.ahead w n).heap=w.heap:=rfl
  rw [this,Array.getElem?_append_left hb]⟩
theorem C_sort {f base k v T t:Nat} {o:List (Option Ob)} {zs zs':List Int} {lim:Option Nat} (hk:base≤k) (ho:o[k]?=some (some (.arr v T (zs.map (V.int .i64))))) (hne:zs≠[]) (hl:zs'.length=zs.length)
 (hs:∀ (blk off cap:Nat) (w:World),Go.Sort.Holds (Value.int .i64) w blk off zs.toArray→blk<w.heap.size→Calls P f #[.slice (some ⟨blk,off,none⟩) zs.length cap] w fun e w'=>e=.returned (.tuple #[])∧∃ n os,w'=Go.Sort.grow (Go.Sort.putRow (Value.int .i64) (Go.Sort.ahead w n) blk off zs'.toArray) os) :
 C P G base f [.sl k v 0 1 zs.length lim] ⟨t,o⟩ fun r σ'=>r=.tup []∧σ'=⟨t,o.set k (some (.arr v T (zs'.map (V.int .i64))))⟩:=by
 intro I ρ w xs hR hb hc
 have hx1:xs.size=1:=hc.1.symm
 obtain ⟨x,rfl⟩:∃ x,xs=#[x]:=⟨xs[0],by
  apply Array.ext
  ·simp [hx1]
  ·intro j h1 h2
   have:j=0:=by omega
   subst this; rfl⟩
 have hv:=hc.2 0 _ x rfl rfl
 have hpos:0<zs.length:=List.length_pos_iff.2 hne
 have hsome:∃ b o' e cap,ρ k v=some (.at b o' e)∧x=.slice (some ⟨b,o'+0,none⟩) zs.length cap:=by
  generalize hu:V.sl k v 0 1 zs.length lim=u at hv
  cases hv with
  | sl _ _ _ _ _ _ _ b o e cap h1 _ _ _=>cases hu; exact ⟨_,_,_,_,h1,rfl⟩
  | slN=>injection hu; omega
  | _=>cases hu
 obtain ⟨b,o',e,cap,hn,rfl⟩:=hsome
 rcases hR.objs k _ ho with ⟨h0,_⟩ | ⟨b',o2,e',c,lo,hi,hn',hcc,g1,g2,g3,g4⟩
 ·rw [hn] at h0; cases h0
 ·rw [hn] at hn'; cases hn'
  simp only [List.length_map] at g1
  have hblk:b<w.heap.size:=(Array.getElem?_eq_some_iff.1 hcc).1
  have hH:Go.Sort.Holds (Value.int .i64) w b o' zs.toArray:=fun j hj=>by
   have hj:j<zs.length:=by simpa using hj
   obtain ⟨y,q1,q2,_⟩:=g4 j (V.int .i64 zs[j]) (by simp [hj])
   cases q2
   refine ⟨?_,?_⟩
   ·simp [World.cell?,hcc,q1,hj]
   ·simp only [World.frozen?,hcc]
    have:=Qny g3 (o'+j) (by omega)
    simp only [Bool.and_eq_false_iff,decide_eq_false_iff_not]
    omega
  refine (hs b o' cap w hH hblk).mono fun ee w' ⟨h1,n,os,h2⟩=>?_
  rw [Go.Sort.putRow_ahead] at h2
  have hc':(Go.Sort.putRow (Value.int .i64) w b o' zs'.toArray).heap[b]?=some (.cells (Go.Sort.putCells (Value.int .i64) o' zs'.toArray c) T (lo,hi)):=by
   simp [Go.Sort.putRow,Go.Sort.mapBlock,Array.getElem?_modify,hcc,Go.Sort.onCells]
  have hko:k<o.length:=(List.getElem?_eq_some_iff.1 ho).1
  obtain ⟨r1,r2⟩:=hR.upd (base:=base) hk (ρ':=ρ) (σ':=⟨t,o.set k (some (.arr v T (zs'.map (V.int .i64))))⟩) (w':=Go.Sort.putRow (Value.int .i64) w b o' zs'.toArray) (ob:=.arr v T (zs'.map (V.int .i64)))
   (by simp [hko]) (fun m hm=>by simp [List.getElem?_set_ne (Ne.symm hm)]) (Nat.le_refl _) (Names.le.refl _) (fun _ _ _ h=>.inl h) rfl rfl rfl (by simp) (fun b2 hb2 hne2=>by
    have:b≠b2:=fun h=>hne2 (by subst h; simp [blk,ho,Ob.ver,hn,Loc.block])
    simp [Go.Sort.putRow,Go.Sort.mapBlock,Array.getElem?_modify,this])
   (.inr ⟨b,o',e,_,lo,hi,hn,hc',by simp [hl]; exact g1,by simpa [Go.Sort.putCells] using g2,g3,fun j u hu=>by
    simp only [List.getElem?_map,Option.map_eq_some_iff] at hu
    obtain ⟨z,hz,rfl⟩:=hu
    have hj:j<zs'.length:=(List.getElem?_eq_some_iff.1 hz).1
    have hzj:=(List.getElem?_eq_some_iff.1 hz).2
    refine ⟨.int .i64 z,?_,.int _ _ _,rfl⟩
    have hsz:o'+j<c.size:=by omega
    simp only [Go.Sort.putCells,Array.getElem?_mapIdx,Array.getElem?_eq_getElem hsz,Option.map_some]
    rw [if_pos (by simp; omega)]
    simp [hj,hzj]⟩) (fun b2 hb2=>by
     right
     simp only [Ob.ver] at hb2
     simpa [blk,ho,Ob.ver] using hb2)
  have hE:=QAA (Go.Sort.putRow (Value.int .i64) w b o' zs'.toArray) n os
  subst h2
  exact ⟨.tup [],_,I,ρ,_,h1,.tup _ _ _ rfl (fun j v x h=>by simp at h),r1.ex hE,r2.trans (Step.of_ex hE),by simpa using hb,rfl,rfl⟩
end Go.Am
namespace Go.Am
open Go
theorem QxA (k:IntKind) (a b:Int):Qdc [.i] (.int k a) (.int k b)=decide (a=b):=by
 simp [Qdc,V.cells,Qbo,QnM]
 by_cases h:a=b <;> simp [h]
def im (k:IntKind) (f:Int→V) (S:List Int):List (V × V):=S.map fun i=>(.int k i,f i)
theorem Qh5 (k:IntKind) (f:Int→V) (S:List Int) (a:Int):Qcd false [.i] (.int k a) (im k f S):=by
 refine ⟨⟨rfl,by simp [V.cells,Qbo,QnM]⟩,fun p hp=>?_⟩
 simp only [im,List.mem_map] at hp
 obtain ⟨i,_,rfl⟩:=hp
 exact ⟨rfl,by simp [V.cells,Qbo,QnM]⟩
theorem Qrk (k:IntKind) (f:Int→V) (a:Int):∀ S:List Int,Qku [.i] (.int k a) (im k f S)=if a∈S then some (f a) else none
 | []=>rfl
 | b::S=>by
   have ih:=Qrk k f a S
   unfold Qku im at ih ⊢
   simp only [List.map_cons,List.find?_cons,QxA]
   by_cases h:a=b
   ·simp [h]
   ·simp only [h,decide_false]
    rw [ih]
    simp [h]
theorem Qrj (k:IntKind) (f:Int→V) (a:Int) (v:V) (hv:v=f a):∀ S:List Int,a ∉ S→Qna [.i] (.int k a) v (im k f S)=im k f (S++[a])
 | [],_=>by simp [im,Qna,hv]
 | b::S,h=>by
   simp only [List.mem_cons,not_or] at h
   have ih:=Qrj k f a v hv S h.2
   unfold im at ih ⊢
   simp only [List.map_cons,List.cons_append,Qna,QxA,h.1,decide_false]
   rw [ih]; simp
theorem QeV:∀ (n:Nat) (S:List Int),S.Nodup→(∀ x∈S,0≤x∧x<n)→S.length≤n
 | 0,S,_,h=>by
   cases S with
   | nil=>simp
   | cons x S=>have:=h x (by simp); omega
 | n+1,S,hn,h=>by
   by_cases hm:(n:Int)∈S
   ·have h1:=QeV n (S.erase n) (hn.erase _) fun x hx=>by
     have hx':=(hn.mem_erase_iff).1 hx
     have:=h x hx'.2
     have:x≠n:=hx'.1
     omega
    have:=List.length_erase_of_mem hm
    omega
   ·have:=QeV n S hn fun x hx=>by
     have h2:=h x hx
     have:x≠n:=fun e=>hm (e▸hx)
     omega
    omega
theorem QME {P:Program} {G:Nat→Option V} {f base k v z t:Nat} {o:List (Option Ob)} {lim:Option Nat}
 (hs:∀ (p:Option Addr) (cap:Nat) (w:World),Calls P f #[.slice p 0 cap] w fun e w'=>e=.returned (.tuple #[])∧w'=w) :
 C P G base f [.sl k v 0 z 0 lim] ⟨t,o⟩ fun r σ'=>r=.tup []∧σ'=⟨t,o⟩:=by
 intro I ρ w xs hR hb hc
 have hx1:xs.size=1:=hc.1.symm
 obtain ⟨x,rfl⟩:∃ x,xs=#[x]:=⟨xs[0],by
  apply Array.ext
  ·simp [hx1]
  ·intro j h1 h2
   have:j=0:=by omega
   subst this; rfl⟩
 have hv:=hc.2 0 _ x rfl rfl
 have hsome:∃ p cap,x=.slice p 0 cap:=by
  generalize hu:V.sl k v 0 z 0 lim=u at hv
  cases hv with
  | sl _ _ _ _ _ _ _ b o e cap h1 _ _ _=>cases hu; exact ⟨_,_,rfl⟩
  | slN=>exact ⟨_,_,rfl⟩
  | _=>cases hu
 obtain ⟨p,cap,rfl⟩:=hsome
 refine (hs p cap w).mono fun e w' ⟨h1,h2⟩=>?_
 subst h2
 exact ⟨.tup [],_,I,ρ,_,h1,.tup _ _ _ rfl (fun j v x h=>by simp at h),hR,Step.refl _ _ _ _ _,hb,rfl,rfl⟩
variable {P:Program} {G:Nat→Option V} {oS:List (Option Ob)}
theorem C_extR {ex:List (Option Ob)} {σB:H} {f:Nat} {args:List V} {bB:Nat} {QS Q:V→H→Prop} (he:σB.o=oS++ex)
 (h:C P G oS.length f args ⟨σB.t,oS⟩ QS) (hu:Qd6 oS.length oS=true) (hargs:QU oS.length args=true)
 (k:∀ vS σS,QS vS σS→σS.o.length=oS.length∧Qd6 oS.length σS.o=true∧V.under oS.length vS=true∧Q vS ⟨σS.t,σS.o++ex⟩):C P G bB f args σB Q:=by
 obtain ⟨tB,oB⟩:=σB
 simp only at he h
 subst he
 have hid:∀ i,i<oS.length→rOf (List.range oS.length) (oS++ex).length i=i:=fun i hi=>Qo6 hi
 have:=QnI (rl:=List.range oS.length) (σB:=⟨tB,oS++ex⟩) (bB:=bB) (Q:=Q) h (by simp) List.nodup_range (fun x hx=>by simp at hx ⊢; omega) (fun i ob ho=>?_) (fun i h1 h2=>?_) (Nat.le_refl _) hargs (fun vS σS hq=>?_)
 ·rwa [ZX hid args hargs] at this
 ·have hi:=(List.getElem?_eq_some_iff.1 ho).1
  have hob:=QbN hu i ob ho
  refine ⟨hob,?_⟩
  simp only
  rw [hid i hi,Ob.ren_under hid ob hob,List.getElem?_append_left hi]
  exact ho
 ·omega
 ·obtain ⟨g1,g2,g3,g4⟩:=k vS σS hq
  refine ⟨by omega,?_⟩
  simp only
  rw [V.ren_under hid vS g3]
  have hm:QcE (rOf (List.range oS.length) (oS++ex).length) oS.length (oS++ex) σS.o=σS.o++ex:=by
   refine List.ext_getElem? fun m=>?_
   unfold QcE
   rw [List.drop_eq_nil_of_le (by omega),List.map_nil,List.append_nil,List.take_of_length_le (by omega)]
   by_cases hm:m<oS.length
   ·have hinj:∀ i j,rOf (List.range oS.length) (oS++ex).length i=rOf (List.range oS.length) (oS++ex).length j→i=j:=fun i j e=>Qq8 List.nodup_range (fun x hx=>by simp at hx ⊢; omega) e
    have:=QhS hinj (l:=σS.o) (i:=0) (oB:=oS++ex) (j:=m) (x:=σS.o[m]) (List.getElem?_eq_getElem (by omega)) (by rw [Nat.zero_add,hid m hm]; simp; omega)
    rw [Nat.zero_add,hid m hm] at this
    rw [this,List.getElem?_append_left (by omega),List.getElem?_eq_getElem (by omega)]
    cases hx:σS.o[m]'(by omega) with
    | none=>rfl
    | some ob=>simp only [Option.map_some]; rw [Ob.ren_under hid ob (QbN g2 m ob (by rw [List.getElem?_eq_getElem (by omega),hx]))]
   ·rw [Qbg fun j _ hj=>by rw [hid j (by omega)]; omega]
    rw [List.getElem?_append_right (by omega),List.getElem?_append_right (by omega),g1]
  rw [hm]
  exact g4
theorem C_read {ex:List (Option Ob)} {f t base:Nat} {args:List V} {r:V} (h:C P G oS.length f args ⟨t,oS⟩ fun v σ=>v=r∧∃ t',t≤t'∧σ=⟨t',oS⟩) (hu:Qd6 oS.length oS=true) (ha:QU oS.length args=true) (hr:V.under oS.length r=true) :
 C P G base f args ⟨t,oS++ex⟩ fun v σ=>v=r∧∃ t',t≤t'∧σ=⟨t',oS++ex⟩ :=
 C_extR (σB:=⟨t,oS++ex⟩) rfl h hu ha fun v σ ⟨h1,t',h2,h3⟩=>by
  subst h1; subst h3; exact ⟨rfl,hu,hr,rfl,t',h2,rfl⟩
end Go.Am
namespace Go.Am
open Go
theorem Qxv (k x y m n:Nat) (hx:x<2 ^ k) (hm:m<2 ^ k):(x+2 ^ k * y) ||| (m+2 ^ k * n)=(x ||| m)+2 ^ k * (y ||| n):=by
 apply Nat.eq_of_testBit_eq
 intro i
 have hxm:x ||| m<2 ^ k:=Nat.or_lt_two_pow hx hm
 rw [Nat.testBit_or,Nat.add_comm x,Nat.add_comm m,Nat.add_comm (x ||| m),Nat.testBit_two_pow_mul_add _ hx,Nat.testBit_two_pow_mul_add _ hm,Nat.testBit_two_pow_mul_add _ hxm]
 split <;> simp [Nat.testBit_or]
theorem QgN (k:IntKind) {x:Int} (h1:k.min≤x) (h2:x≤k.max):k.wrap x=x:=by
 cases k <;> simp [IntKind.min,IntKind.max,IntKind.wrap,IntKind.bits,IntKind.signed] at * <;> omega
theorem QkM (B j:Nat) (a:Int) (hj:j≤B):(BitVec.ofInt B a &&& BitVec.ofInt B (2 ^ j - 1)).toNat=(a % 2 ^ j).toNat:=by
 have h1:(BitVec.ofInt B a).toNat=(a % 2 ^ B).toNat:=by rw [BitVec.toNat_ofInt]; norm_cast
 have hpos:(0:Int)<2 ^ j:=Int.pow_pos (by omega)
 have hposB:(0:Int)<2 ^ B:=Int.pow_pos (by omega)
 have hle:(2:Int) ^ j≤2 ^ B:=by
  have:=Nat.pow_le_pow_right (n:=2) (by omega) hj
  exact_mod_cast this
 have h2:(BitVec.ofInt B (2 ^ j - 1)).toNat=2 ^ j - 1:=by
  rw [BitVec.toNat_ofInt]
  have:((2:Int) ^ j - 1) % ((2 ^ B:Nat):Int)=2 ^ j - 1:=by
   apply Int.emod_eq_of_lt
   ·omega
   ·push_cast; omega
  rw [this]
  have:((2:Int) ^ j - 1).toNat=2 ^ j - 1:=by
   have e:((2 ^ j:Nat):Int)=2 ^ j:=by push_cast; rfl
   omega
  exact this
 rw [BitVec.toNat_and,h1,h2,Nat.and_two_pow_sub_one_eq_mod]
 have e:((2 ^ j:Nat):Int)=2 ^ j:=by push_cast; rfl
 have hnn:=Int.emod_nonneg a (show (2:Int) ^ B≠0 by omega)
 have hnn2:=Int.emod_nonneg a (show (2:Int) ^ j≠0 by omega)
 have hdvd:(2:Int) ^ j ∣ 2 ^ B:=⟨2 ^ (B - j),by rw [← Int.pow_add]; congr 1; omega⟩
 have:=Int.emod_emod_of_dvd a hdvd
 apply Int.ofNat_inj.1
 push_cast
 rw [Int.toNat_of_nonneg hnn,Int.toNat_of_nonneg hnn2,this]
theorem Qr7 (k:IntKind) (j:Nat) (a m:Int) (hm:m=2 ^ j - 1) (hj:j<k.bits):k.wrap (BitVec.ofInt k.bits a &&& BitVec.ofInt k.bits m).toNat=a % 2 ^ j:=by
 subst hm
 rw [QkM _ _ _ (by omega)]
 have hpos:(0:Int)<2 ^ j:=Int.pow_pos (by omega)
 have hnn2:=Int.emod_nonneg a (show (2:Int) ^ j≠0 by omega)
 have hlt:=Int.emod_lt_of_pos a hpos
 rw [Int.toNat_of_nonneg hnn2]
 have hle:(2:Int) ^ j≤2 ^ (k.bits - 1):=by
  have:=Nat.pow_le_pow_right (n:=2) (by omega) (show j≤k.bits - 1 by omega)
  exact_mod_cast this
 apply QgN
 ·cases k <;> simp [IntKind.min,IntKind.bits,IntKind.signed] at * <;> omega
 ·cases k <;> simp [IntKind.max,IntKind.bits,IntKind.signed] at * <;> omega
theorem or_add (k:IntKind) (j:Nat) (a b:Int) (ha:0≤a) (hb:0≤b) (hb':b<2 ^ j) (hd:a % 2 ^ j=0) (hs:a+b≤k.max):k.wrap (BitVec.ofInt k.bits a ||| BitVec.ofInt k.bits b).toNat=a+b:=by
 obtain ⟨x,rfl⟩:=Int.eq_ofNat_of_zero_le ha
 obtain ⟨y,rfl⟩:=Int.eq_ofNat_of_zero_le hb
 have hmax:k.max<2 ^ k.bits:=by cases k <;> simp [IntKind.max,IntKind.bits,IntKind.signed]
 have hB:((2 ^ k.bits:Nat):Int)=2 ^ k.bits:=by push_cast; rfl
 have hJ:((2 ^ j:Nat):Int)=2 ^ j:=by push_cast; rfl
 have hd':x % 2 ^ j=0:=by rw [← hJ] at hd; exact_mod_cast hd
 have hy':y<2 ^ j:=by rw [← hJ] at hb'; exact_mod_cast hb'
 have h1:∀ z:Nat,z<2 ^ k.bits→(BitVec.ofInt k.bits (z:Int)).toNat=z:=fun z hz=>by
  rw [BitVec.toNat_ofInt]
  have:((z:Int) % ((2 ^ k.bits:Nat):Int))=z:=Int.emod_eq_of_lt (by omega) (by exact_mod_cast hz)
  rw [this]; simp
 rw [BitVec.toNat_or,h1 x (by omega),h1 y (by omega)]
 have:x ||| y=x+y:=by
  have e:=Qxv j 0 (x / 2 ^ j) y 0 (Nat.pow_pos (by omega)) hy'
  have e1:0+2 ^ j * (x / 2 ^ j)=x:=by have:=Nat.div_add_mod x (2 ^ j); omega
  rw [e1] at e
  simp at e
  rw [e]
  omega
 rw [this]
 push_cast
 apply QgN
 ·have:k.min≤0:=by cases k <;> simp [IntKind.min,IntKind.bits,IntKind.signed]
  omega
 ·omega
theorem QKS (k:IntKind) (j:Nat) (a b:Int) (ha:0≤a) (hb:0≤b) (hb':a<2 ^ j) (hd:b % 2 ^ j=0) (hs:a+b≤k.max):k.wrap (BitVec.ofInt k.bits a ||| BitVec.ofInt k.bits b).toNat=a+b:=by
 rw [BitVec.or_comm,or_add k j b a hb ha hb' hd (by omega),Int.add_comm]
def i64 (i:Int):Prop:=-9223372036854775808≤i∧i≤9223372036854775807
def isD (c:UInt8):Bool:=decide (48≤c.toNat∧c.toNat≤57)
def nx (p:UInt8→Bool):List UInt8→Bool
 | []=>true
 | c::_=>!p c
structure NumOk (fmt:Int→List UInt8):Prop where
 ne:∀ n,i64 n→∃ c s,fmt n=c::s∧(c=45∨isD c=true)
 inj:∀ n m,i64 n→i64 m→∀ u v,nx isD u=true→nx isD v=true→fmt n++u=fmt m++v→n=m∧u=v
mutual
def veq:V→V→Bool
 | .int k n,.int k' n'=>decide (k=k')&&(n==n')
 | .bool b,.bool b'=>b==b'
 | .str s,.str s'=>s==s'
 | .agg l,.agg l'=>QHS l l'
 | .tup l,.tup l'=>QHS l l'
 | .lst z l t,.lst z' l' t'=>(z==z')&&(t==t')&&QHS l l'
 | _,_=>false
def QHS:List V→List V→Bool
 | [],[]=>true
 | v::l,w::m=>veq v w&&QHS l m
 | _,_=>false
end
mutual
theorem QwI:∀ {v w:V},veq v w=true→Qf v=true∧v=w
 | .int k n,.int k' n',h=>by simp [veq] at h; obtain ⟨rfl,rfl⟩:=h; exact ⟨rfl,rfl⟩
 | .bool b,.bool b',h=>by simp [veq] at h; subst h; exact ⟨rfl,rfl⟩
 | .str s,.str s',h=>by simp [veq] at h; subst h; exact ⟨rfl,rfl⟩
 | .agg l,.agg l',h=>by simp only [veq] at h; obtain ⟨h1,rfl⟩:=QfJ h; exact ⟨by simpa [Qf] using h1,rfl⟩
 | .tup l,.tup l',h=>by simp only [veq] at h; obtain ⟨h1,rfl⟩:=QfJ h; exact ⟨by simpa [Qf] using h1,rfl⟩
 | .lst z l t,.lst z' l' t',h=>by
   simp only [veq,Bool.and_eq_true,beq_iff_eq] at h
   obtain ⟨⟨rfl,rfl⟩,h⟩:=h
   obtain ⟨h1,rfl⟩:=QfJ h
   exact ⟨by simp [Qf,h1],rfl⟩
 | .any,w,h=>by simp [veq] at h
 | .val _,w,h=>by simp [veq] at h
 | .ptr ..,w,h=>by simp [veq] at h
 | .ref ..,w,h=>by simp [veq] at h
 | .sl ..,w,h=>by simp [veq] at h
 | .mp ..,w,h=>by simp [veq] at h
 | .fn ..,w,h=>by simp [veq] at h
 | .iface ..,w,h=>by simp [veq] at h
 | .int ..,.bool _,h | .int ..,.str _,h | .int ..,.agg _,h | .int ..,.tup _,h | .int ..,.lst ..,h | .int ..,.any,h | .int ..,.val _,h | .int ..,.ptr ..,h | .int ..,.ref ..,h | .int ..,.sl ..,h | .int ..,.mp ..,h | .int ..,.fn ..,h | .int ..,.iface ..,h=>by simp [veq] at h
 | .bool ..,.int ..,h | .bool ..,.str _,h | .bool ..,.agg _,h | .bool ..,.tup _,h | .bool ..,.lst ..,h | .bool ..,.any,h | .bool ..,.val _,h | .bool ..,.ptr ..,h | .bool ..,.ref ..,h | .bool ..,.sl ..,h | .bool ..,.mp ..,h | .bool ..,.fn ..,h | .bool ..,.iface ..,h=>by simp [veq] at h
 | .str ..,.int ..,h | .str ..,.bool _,h | .str ..,.agg _,h | .str ..,.tup _,h | .str ..,.lst ..,h | .str ..,.any,h | .str ..,.val _,h | .str ..,.ptr ..,h | .str ..,.ref ..,h | .str ..,.sl ..,h | .str ..,.mp ..,h | .str ..,.fn ..,h | .str ..,.iface ..,h=>by simp [veq] at h
 | .agg ..,.int ..,h | .agg ..,.bool _,h | .agg ..,.str _,h | .agg ..,.tup _,h | .agg ..,.lst ..,h | .agg ..,.any,h | .agg ..,.val _,h | .agg ..,.ptr ..,h | .agg ..,.ref ..,h | .agg ..,.sl ..,h | .agg ..,.mp ..,h | .agg ..,.fn ..,h | .agg ..,.iface ..,h=>by simp [veq] at h
 | .tup ..,.int ..,h | .tup ..,.bool _,h | .tup ..,.str _,h | .tup ..,.agg _,h | .tup ..,.lst ..,h | .tup ..,.any,h | .tup ..,.val _,h | .tup ..,.ptr ..,h | .tup ..,.ref ..,h | .tup ..,.sl ..,h | .tup ..,.mp ..,h | .tup ..,.fn ..,h | .tup ..,.iface ..,h=>by simp [veq] at h
 | .lst ..,.int ..,h | .lst ..,.bool _,h | .lst ..,.str _,h | .lst ..,.agg _,h | .lst ..,.tup _,h | .lst ..,.any,h | .lst ..,.val _,h | .lst ..,.ptr ..,h | .lst ..,.ref ..,h | .lst ..,.sl ..,h | .lst ..,.mp ..,h | .lst ..,.fn ..,h | .lst ..,.iface ..,h=>by simp [veq] at h
theorem QfJ:∀ {l m:List V},QHS l m=true→Qc l=true∧l=m
 | [],[],_=>⟨rfl,rfl⟩
 | v::l,w::m,h=>by
   simp only [QHS,Bool.and_eq_true] at h
   obtain ⟨h1,rfl⟩:=QwI h.1
   obtain ⟨h2,rfl⟩:=QfJ h.2
   exact ⟨by simp [Qc,h1,h2],rfl⟩
 | [],_::_,h=>by simp [QHS] at h
 | _::_,[],h=>by simp [QHS] at h
end
def QkC (k:IntKind) (a b:Int):Int:=k.wrap (BitVec.ofInt k.bits a &&& BitVec.ofInt k.bits b).toNat
def orI (k:IntKind) (a b:Int):Int:=k.wrap (BitVec.ofInt k.bits a ||| BitVec.ofInt k.bits b).toNat
def QHP (k:IntKind) (a b:Int):Int:=k.wrap (BitVec.ofInt k.bits a ^^^ BitVec.ofInt k.bits b).toNat
@[go_sem ↓ high] theorem fold_and {k:IntKind} {a b:Int}:k.wrap ((BitVec.ofInt k.bits a &&& BitVec.ofInt k.bits b).toNat:Int)=QkC k a b:=Eq.symm (by unfold QkC; exact Eq.refl _)
@[go_sem ↓ high] theorem fold_or {k:IntKind} {a b:Int}:k.wrap ((BitVec.ofInt k.bits a ||| BitVec.ofInt k.bits b).toNat:Int)=orI k a b:=Eq.symm (by unfold orI; exact Eq.refl _)
@[go_sem ↓ high] theorem fold_xor {k:IntKind} {a b:Int}:k.wrap ((BitVec.ofInt k.bits a ^^^ BitVec.ofInt k.bits b).toNat:Int)=QHP k a b:=Eq.symm (by unfold QHP; exact Eq.refl _)
end Go.Am
namespace Go.Am
open Go Go.RowKit
variable {P:Program} {G:Nat→Option V}
end Go.Am
namespace Go.Am
open Go
end Go.Am
namespace Go.Am
open Go Go.RowKit
variable {P:Program} {G:Nat→Option V}
mutual
inductive Seen (o:List (Option Ob)):V→V→Prop
 | same (v:V):Qf v=true→Seen o v v
 | row (n v off sz:Nat) (lim:Option Nat) (T:TypeId) (cs:List V) (l:List V):o[n]?=some (some (.arr v T cs))→(∀ (j:Nat) (u:V),l[j]?=some u→u.cells.length=sz∧∀ (i:Nat) (c:V),u.cells[i]?=some c→cs[off+j * sz+i]?=some c∧Qf c=true) →
  (l=[]→off=0)→Seen o (.sl n v off sz l.length lim) (.lst sz l false)
 | agg (l m:List V):SeenL o l m→Seen o (.agg l) (.agg m)
inductive SeenL (o:List (Option Ob)):List V→List V→Prop
 | nil:SeenL o [] []
 | cons (v v':V) (l l':List V):Seen o v v'→SeenL o l l'→SeenL o (v::l) (v'::l')
end
mutual
def scal:V→Bool
 | .int ..=>true
 | .bool _=>true
 | .str _=>true
 | .agg l=>QwT l
 | .tup l=>QwT l
 | _=>false
def QwT:List V→Bool
 | []=>true
 | v::l=>scal v&&QwT l
end
theorem QkZ:∀ {l:List V},QwT l=true→∀ (j:Nat) (v:V),l[j]?=some v→scal v=true
 | [],_,j,v,h=>by simp at h
 | u::l,hs,j,v,h=>by
   simp only [QwT,Bool.and_eq_true] at hs
   cases j with
   | zero=>simp at h; subst h; exact hs.1
   | succ j=>exact QkZ hs.2 j v (by simpa using h)
theorem VR.scal {I:Imm} {ρ:Names} {v:V} {x:Value} (h:VR I ρ v x):scal v=true→∀ I' ρ',VR I' ρ' v x:=by
 induction h with
 | int=>intros; exact .int _ _ _
 | bool=>intros; exact .bool _ _
 | str=>intros; exact .str _ _
 | agg _ l cs hl _ ih =>
   intro hs I' ρ'
   simp only [Am.scal] at hs
   exact .agg _ _ _ hl fun j v x h1 h2=>ih j v x h1 h2 (QkZ hs j v h1) I' ρ'
 | tup _ l cs hl _ ih =>
   intro hs I' ρ'
   simp only [Am.scal] at hs
   exact .tup _ _ _ hl fun j v x h1 h2=>ih j v x h1 h2 (QkZ hs j v h1) I' ρ'
 | _=>intro hs; simp [Am.scal] at hs
theorem Qnk {I:Imm} {ρ:Names} {σ:H} {w:World} (R:Rel G I ρ σ w):I.le (QaA w):=fun b o x h=>by
 obtain ⟨h1,h2⟩:=R.imm b o x h
 have h2':x.oneCell'=true:=h2
 unfold QaA
 rw [h1]
 simp [Option.filter,h2']
theorem SeenL.len {o:List (Option Ob)}:∀ {l m:List V},SeenL o l m→l.length=m.length
 | [],[],_=>rfl
 | _::_,_::_,.cons _ _ _ _ _ h=>by simp [SeenL.len h]
mutual
theorem Seen.vr {I:Imm} {ρ:Names} {σ:H} {w:World} (R:Rel G I ρ σ w):∀ {v v':V} {x:Value},Seen σ.o v v'→VR I ρ v x→VR (QaA w) noNames v' x
 | _,_,x,.same v hn,h=>(h.noNames hn).mono (Qnk R) (.refl _)
 | _,_,x,.agg l m hl,h=>by
   generalize hu:V.agg l=u at h
   cases h with
   | agg _ l' cs hlen hc =>
     cases hu
     refine .agg _ _ _ (by rw [← hl.len,hlen]) fun j v x h1 h2=>?_
     exact SeenL.vr R hl cs (fun j v x a b=>hc j v x a b) j v x h1 h2
   | _=>cases hu
 | _,_,x,.row n v off sz lim T cs l ho hl h0,h=>by
   generalize hu:V.sl n v off sz l.length lim=u at h
   cases h with
   | sl _ n' v' off' sz' len' lim' b o e cap hn hle _ _ =>
     cases hu
     by_cases hnil:l=[]
     ·subst hnil; exact .lstN _ _ _ _ _ (by simp)
     ·rcases R.objs n _ ho with ⟨hw,_⟩ | ⟨b',o',e',c,lo,hi,hn',hcc,g1,g2,g3,g4⟩
      ·rw [hn] at hw; cases hw
      ·rw [hn] at hn'; cases hn'
       have key:∀ (j:Nat) (u:V),l[j]?=some u→∀ (i:Nat) (cc:V),u.cells[i]?=some cc→QaA w b (o+off+j * sz+i)=some ((c[o+(off+j * sz+i)]?).getD default)∧VR (QaA w) noNames cc ((c[o+(off+j * sz+i)]?).getD default):=fun j u hj i cc hi=>by
        obtain ⟨q1,q2⟩:=(hl j u hj).2 i cc hi
        obtain ⟨y,r1,r2,r3⟩:=g4 _ cc q1
        have r3':y.oneCell'=true:=r3
        rw [r1]
        refine ⟨?_,(r2.noNames q2).mono (Qnk R) (.refl _)⟩
        unfold QaA
        simp only [World.cell?,hcc]
        rw [show o+off+j * sz+i=o+(off+j * sz+i) by omega,r1]
        simp [Option.filter,r3']
       refine .lst _ _ _ _ b (o+off) cap (fun j i=>(c[o+(off+j * sz+i)]?).getD default) hnil hle (by simp) (fun j u hj=>(hl j u hj).1) (fun j u hj i cc hi=>(key j u hj i cc hi).1) fun j u hj i cc hi=>(key j u hj i cc hi).2
   | slN _ n' v' sz' lim' a hn hm =>
     injection hu with e1 e2 e3 e4 e5 e6
     have:l=[]:=List.eq_nil_of_length_eq_zero e5
     subst this
     exact .lstN _ _ _ _ _ (by simp)
   | _=>cases hu
theorem SeenL.vr {I:Imm} {ρ:Names} {σ:H} {w:World} (R:Rel G I ρ σ w):∀ {l m:List V},SeenL σ.o l m→∀ (xs:Array Value),(∀ (j:Nat) (v:V) (x:Value),l[j]?=some v→xs[j]?=some x→VR I ρ v x) →
 ∀ (j:Nat) (v:V) (x:Value),m[j]?=some v→xs[j]?=some x→VR (QaA w) noNames v x
 | [],[],_,xs,_,j,v,x,h,_=>by simp at h
 | _::_,_::_,.cons a a' l l' h hl,xs,hc,j,v,x,hv,hx=>by
   cases j with
   | zero =>
     simp at hv
     subst hv
     exact Seen.vr R h (hc 0 a x rfl hx)
   | succ j =>
     refine SeenL.vr R hl (xs.extract 1 xs.size) (fun j v x h1 h2=>hc (j+1) v x (by simpa using h1) ?_) j v x (by simpa using hv) ?_
     ·rw [Array.getElem?_extract] at h2
      split at h2
      ·rw [Nat.add_comm] at h2; exact h2
      ·cases h2
     ·have hlt:=(Array.getElem?_eq_some_iff.1 hx).1
      rw [Array.getElem?_extract,if_pos (by omega),Nat.add_comm]
      exact hx
end
variable {args':List V}
theorem C_view {f:FuncId} {args:List V} {Q:V→Prop} (h:Pure P G f args' Q) {base:Nat} {σ:H} (hs:SeenL σ.o args args') (hq:∀ v,Q v→scal v=true) {R:V→H→Prop} (k:∀ v,Q v→R v σ):C P G base f args σ R:=by
 intro I ρ w xs hR hb hc
 have hR0:Rel G (QaA w) noNames ⟨σ.t,[]⟩ w:=⟨fun n ob h=>(by simp at h),fun n v l h=>(by cases h),fun n m b h=>(by simp [blk] at h),fun b o x hx=>by
  unfold QaA at hx
  rw [Option.filter_eq_some_iff] at hx
  exact ⟨hx.1,hx.2⟩,fun n b h=>(by simp [blk] at h),hR.globs_to (Qnk hR) fun _ _ _ _=>rfl⟩
 have hc0:Cells (QaA w) noNames args' xs:=⟨by rw [← hs.len]; exact hc.1,fun j v x h1 h2=>hs.vr hR xs hc.2 j v x h1 h2⟩
 refine (h σ.t (QaA w) noNames w xs hR0 (Nat.zero_le _) hc0).mono fun e w' ⟨v,x,I',ρ',σ',h1,h2,h3,h4,h5,h6,h7⟩=>?_
 have hE:Ex w w':=⟨h4.os,h4.tape,h4.output,h4.size,fun b hlt=>h4.keep b hlt fun n _=>by simp [blk]⟩
 exact ⟨v,x,I,ρ,σ,h1,h2.scal (hq v h7) _ _,hR.ex hE,Step.of_ex hE,hb,k v h7⟩
theorem QkB {T:Nat→Option AF} (hT:Qe P T) {f:Nat} {A:AF} (hf:T f=some A) {n base base':Nat} {Q:AE→Fr→H→Prop} {t:AT} {d:Option Nat} {dead:List Nat} {s:List KI} {fr:Fr} {args:List V} {σ:H} {v0:V}
 (h:Pure P G f args' fun v=>v=v0) (hs:SeenL σ.o args args') (hv:scal v0=true) (fuel:Nat) (k:run P G n base Q fuel (.at t dead::s) .nrm (fput fr d v0) σ):CV P G base' (.fn (.func f) [] []) args σ (kC P G n base Q d t dead s fr) :=
 call hT hf (C_view (R:=fun v σ'=>v=v0∧σ'=σ) h hs (fun v e=>e▸hv) fun v e=>⟨e,rfl⟩) fuel fun v σ' ⟨e1,e2⟩=>by rw [e1,e2]; exact k
end Go.Am
namespace Go.Am
open Go
variable {P:Program} {G:Nat→Option V}
mutual
inductive Wk:V→V→Prop
 | refl (v:V):Wk v v
 | lst (z z':Nat) (l m:List V) (t:Bool):WkL l m→(l=[]∨z=z')→Wk (.lst z l t) (.lst z' m false)
 | agg (l m:List V):WkL l m→Wk (.agg l) (.agg m)
 | tup (l m:List V):WkL l m→Wk (.tup l) (.tup m)
inductive WkL:List V→List V→Prop
 | nil:WkL [] []
 | cons (v v':V) (l l':List V):Wk v v'→WkL l l'→WkL (v::l) (v'::l')
end
theorem WkL.refl:∀ l:List V,WkL l l
 | []=>.nil
 | v::l=>.cons _ _ _ _ (.refl v) (WkL.refl l)
theorem WkL.len:∀ {l m:List V},WkL l m→l.length=m.length
 | [],[],_=>rfl
 | _::_,_::_,.cons _ _ _ _ _ h=>by simp [WkL.len h]
theorem WkL.get:∀ {l m:List V},WkL l m→∀ (j:Nat) (v':V),m[j]?=some v'→∃ v,l[j]?=some v∧Wk v v'
 | [],[],_,j,v',h=>by simp at h
 | _::_,_::_,.cons a a' l l' h hl,j,v',hv=>by
   cases j with
   | zero=>simp at hv; subst hv; exact ⟨a,rfl,h⟩
   | succ j=>exact WkL.get hl j v' (by simpa using hv)
theorem WkL.map {α:Type} {f g:α→V}:∀ {l:List α},(∀ x∈l,Wk (f x) (g x))→WkL (l.map f) (l.map g)
 | [],_=>.nil
 | x::l,h=>.cons _ _ _ _ (h x (by simp)) (WkL.map fun y hy=>h y (by simp [hy]))
theorem Wk.cells {v v':V} (h:Wk v v'):WkL v.cells v'.cells:=by
 cases h with
 | refl=>exact .refl _
 | lst z z' l m t h hz=>exact .cons _ _ _ _ (.lst z z' l m t h hz) .nil
 | agg l m h=>exact h
 | tup l m h=>exact .cons _ _ _ _ (.tup l m h) .nil
theorem VR.wk {I:Imm} {ρ:Names} {v:V} {x:Value} (h:VR I ρ v x):∀ {v':V},Wk v v'→VR I ρ v' x:=by
 induction h with
 | agg _ l cs hl hc ih =>
   intro v' hw
   cases hw with
   | refl=>exact .agg _ _ _ hl hc
   | agg _ m hm =>
     refine .agg _ _ _ (by rw [← hm.len,hl]) fun j u x hu hx=>?_
     obtain ⟨w,hw,hk⟩:=hm.get j u hu
     exact ih j w x hw hx hk
 | tup _ l cs hl hc ih =>
   intro v' hw
   cases hw with
   | refl=>exact .tup _ _ _ hl hc
   | tup _ m hm =>
     refine .tup _ _ _ (by rw [← hm.len,hl]) fun j u x hu hx=>?_
     obtain ⟨w,hw,hk⟩:=hm.get j u hu
     exact ih j w x hw hx hk
 | lst ρ sz l tight b o cap f h0 h1 h2 h3 h4 h5 ih =>
   intro v' hw
   cases hw with
   | refl=>exact .lst _ _ _ _ _ _ _ f h0 h1 h2 h3 h4 h5
   | lst _ z' _ m _ hm hz =>
     obtain rfl:=hz.resolve_left h0
     have hml:=hm.len
     rw [hml] at h1 ⊢
     refine .lst _ _ _ _ b o cap f (fun e=>h0 (by rw [e] at hml; exact List.eq_nil_of_length_eq_zero (by simpa using hml))) h1 (by simp) (fun j u hj=>?_) (fun j u hj i c hc=>?_) fun j u hj i c hc=>?_
     ·obtain ⟨w,hw,hk⟩:=hm.get j u hj
      rw [← hk.cells.len]; exact h3 j w hw
     ·obtain ⟨w,hw,hk⟩:=hm.get j u hj
      obtain ⟨d,hd,_⟩:=hk.cells.get i c hc
      exact h4 j w hw i d hd
     ·obtain ⟨w,hw,hk⟩:=hm.get j u hj
      obtain ⟨d,hd,hk'⟩:=hk.cells.get i c hc
      exact ih j w hw i d hd hk'
 | lstN ρ sz tight a cap h =>
   intro v' hw
   cases hw with
   | refl=>exact .lstN _ _ _ _ _ h
   | lst _ z' _ m _ hm hz =>
     cases hm
     exact .lstN _ _ _ _ _ (by simp)
 | ref ρ x off b o f h1 h2 _ =>
   intro v' hw; cases hw; exact .ref _ _ _ _ _ f h1 h2
 | any=>intro v' hw; cases hw; exact .any _ _
 | int=>intro v' hw; cases hw; exact .int _ _ _
 | bool=>intro v' hw; cases hw; exact .bool _ _
 | str=>intro v' hw; cases hw; exact .str _ _
 | val=>intro v' hw; cases hw; exact .val _ _
 | ptr _ _ _ _ _ _ _ h=>intro v' hw; cases hw; exact .ptr _ _ _ _ _ _ _ h
 | sl _ _ _ _ _ _ _ _ _ _ _ h h1 h2 h3=>intro v' hw; cases hw; exact .sl _ _ _ _ _ _ _ _ _ _ _ h h1 h2 h3
 | slN _ _ _ _ _ _ h h1=>intro v' hw; cases hw; exact .slN _ _ _ _ _ _ h h1
 | mp _ _ _ _ _ _ h=>intro v' hw; cases hw; exact .mp _ _ _ _ _ _ h
 | fn _ _ _ _ _ _ h1 h2 h3 h4=>intro v' hw; cases hw; exact .fn _ _ _ _ _ _ h1 h2 h3 h4
 | iface _ _ _ _ h=>intro v' hw; cases hw; exact .iface _ _ _ _ h
variable {args' cs:List V}
theorem QyS {base f:Nat} {args:List V} {σ:H} {Q:V→H→Prop} (hw:WkL args args') (h:C P G base f args' σ Q):C P G base f args σ Q:=fun I ρ w xs hR hb hc =>
 h I ρ w xs hR hb ⟨by rw [← hw.len]; exact hc.1,fun j v x h1 h2=>by
   obtain ⟨u,hu,hk⟩:=hw.get j v h1
   exact (hc.2 j u x hu h2).wk hk⟩
theorem Pure.args {f:FuncId} {args:List V} {Q:V→Prop} (hw:WkL args args') (h:Pure P G f args' Q):Pure P G f args Q:=fun t=>QyS hw (h t)
theorem C_res {base f:Nat} {args:List V} {σ:H} {Q Q2:V→H→Prop} (h:C P G base f args σ Q) (k:∀ v σ',Q v σ'→∃ v',Wk v v'∧Q2 v' σ'):C P G base f args σ Q2:=fun I ρ w xs hR hb hc =>
 (h I ρ w xs hR hb hc).mono fun e w' ⟨v,x,I',ρ',σ',h1,h2,h3,h4,h5,h6⟩=>by
  obtain ⟨v',hk,hq⟩:=k v σ' h6
  exact ⟨v',x,I',ρ',σ',h1,h2.wk hk,h3,h4,h5,hq⟩
theorem Pure.res {f:FuncId} {args:List V} {a b:V} (hw:Wk a b) (hn:Qf b=true) (h:Pure P G f args fun v=>v=a):Pure P G f args fun v=>v=b:=fun t=>C_res (h t) fun v σ' ⟨_,e⟩=>⟨b,e▸hw,hn,rfl⟩
theorem C_own (sz T:Nat) {base f:Nat} {args:List V} {σ:H} {Q Q2:V→H→Prop} (h:C P G base f args σ Q)
 (k:∀ v σ',Q v σ'→Q2 v σ'∨∃ z,v=.lst z [] true∧Q2 (.sl σ'.o.length σ'.t 0 sz 0 none) ⟨σ'.t+1,σ'.o++[some (.arr σ'.t T [])]⟩):C P G base f args σ Q2:=by
 intro I ρ w xs R hb hc
 refine (h I ρ w xs R hb hc).mono fun e w' ⟨v,x,I',ρ',σ',h1,h2,h3,h4,h5,h6⟩=>?_
 rcases k v σ' h6 with hq | ⟨z,rfl,hq⟩
 ·exact ⟨v,x,I',ρ',σ',h1,h2,h3,h4,h5,hq⟩
 ·obtain ⟨R1,S1⟩:=h3.nowhere (T:=T) (k:=σ'.o.length) (base:=base) h5 (σ':=H.push σ' (.arr σ'.t T [])) (by simp [H.push]) (fun m hm=>by
   simp only [H.push,List.getElem?_append]
   split
   ·rfl
   ·have:m - σ'.o.length≠0:=by omega
    rw [List.getElem?_eq_none (l:=σ'.o) (by omega)]
    cases h:m - σ'.o.length with
    | zero=>exact absurd h this
    | succ j=>rfl) rfl
  refine ⟨.sl σ'.o.length σ'.t 0 sz 0 none,x,I',_,_,h1,?_,R1,h4.trans S1,by simp [H.push]; omega,hq⟩
  generalize hu:V.lst z [] true=u at h2
  cases h2 with
  | lstN _ _ _ a cap h =>
    cases hu
    rw [h rfl]
    exact .slN _ _ _ _ _ _ (Names.add_self _ _ _ _) fun m h=>by cases h
  | lst _ _ _ _ _ _ _ f h0=>cases hu; exact absurd rfl h0
  | _=>cases hu
theorem CV.use {n base base':Nat} {args:List V} {σ:H} {R:V→H→Prop} {Q:AE→Fr→H→Prop} {t:AT} {d:Option Nat} {dead:List Nat} {s:List KI} {fr:Fr} {fv:V} (fuel:Nat)
 (h:CV P G base' fv args σ R) (k:∀ v σ',R v σ'→run P G n base Q fuel (.at t dead::s) .nrm (fput fr d v) σ'):CV P G base' fv args σ (kC P G n base Q d t dead s fr):=by
 unfold CV at h ⊢
 split at h
 ·exact ⟨h.1,h.2.conseq fun v σ' hq=>Qg fuel (k v σ' hq)⟩
 ·exact h
theorem CV.of {T:Nat→Option AF} (hT:Qe P T) {f:Nat} {A:AF} (hf:T f=some A) {base:Nat} {args cap:List V} {σ:H} {R:V→H→Prop} (h:C P G base f (args++cap) σ R):CV P G base (.fn (.func f) [] cap) args σ R :=
 QtL hT hf (by rw [List.nil_append]; exact h)
def Qh8 (fr:Fr):Fr→Prop
 | []=>True
 | p::l=>Qd fr p.1=p.2∧Qh8 fr l
theorem QiU {fr:Fr}:∀ {l:Fr},Qh8 fr l→∀ t,Qd l t=Qd fr t∨Qd l t=.any
 | [],_,t=>.inr rfl
 | (i,v)::l,h,t=>by
   simp only [Qd]
   split
   ·rename_i e; subst e; exact .inl h.1.symm
   ·exact QiU h.2 t
variable {c x:AC}
theorem QnH {n base:Nat} {fr:Fr} {σ:H} {Q:AE→Fr→H→Prop} (l:Fr) (h:Qh8 fr l) (k:W P G n base c l σ Q):W P G n base c fr σ Q:=QyK (Shift.frame (QiU h)) k
theorem Qh {n base:Nat} {fr:Fr} {σ:H} {Q:AE→Fr→H→Prop} (l:Fr) (h:Qh8 fr l) (f:Nat) (k:run P G n base Q f [.ac c] .nrm l σ):W P G n base c fr σ Q:=QnH l h (Qm f k)
theorem QaT {base f:Nat} {args:List V} {σ:H} {Q Q2:V→H→Prop} (h:C P G base f args σ Q)
 (k:∀ v σ',Q v σ'→Q2 v σ'∨∃ k v' T cs,base≤k∧σ'.o[k]?=some (some (.arr v' T cs))∧Qc cs=true∧Q2 (Zw k v' cs v) ⟨σ'.t,Q6 (Zw k v' cs) base (σ'.o.set k none)⟩):C P G base f args σ Q2:=by
 intro I ρ w xs R hb hc
 refine (h I ρ w xs R hb hc).mono fun e w' ⟨v,x,I',ρ',σ',h1,h2,h3,h4,h5,h6⟩=>?_
 rcases k v σ' h6 with hq | ⟨k,v',T,cs,hbase,ho,hn,hq⟩
 ·exact ⟨v,x,I',ρ',σ',h1,h2,h3,h4,h5,hq⟩
 obtain ⟨I2,hle,k1,k2,k3⟩:=h3.freeze hbase ho hn
 have hc:∀ u∈cs,u.cells=[u]:=fun u hu=>by
  obtain ⟨j,hj⟩:=List.mem_iff_getElem?.1 hu
  rcases h3.objs k _ ho with ⟨_,h0⟩ | ⟨b,o,e,c,lo,hi,_,_,_,_,_,g⟩
  ·rw [h0] at hu; cases hu
  ·obtain ⟨x,g1,g2,g3⟩:=g j u hj
   cases g2 <;> first | rfl | (simp [one,Value.oneCell'] at g3; done)
 have hF:QBb I2 ρ' k v' cs:=⟨hc,k3⟩
 obtain ⟨q1,q2⟩:=Rel.mapV (base:=base) k1 (g:=Zw k v' cs) (fun u x hu=>hu.frz hF)
 exact ⟨_,x,I2,ρ',_,h1,VR.frz hF (h2.mono hle (Names.le.refl _)),q1,h4.trans (k2.trans q2),by rw [QW]; simpa using h5,hq⟩
theorem Qo1 {n base:Nat} {Q:AE→Fr→H→Prop} {s:List KI} {fr:Fr} {σ:H} (l:Fr) (h:Qh8 fr l) (k:sem P G n base Q (.ac c::s) .nrm l σ):sem P G n base Q (.ac c::s) .nrm fr σ:=QX (Shift.frame (QiU h)) k
abbrev One:={x:Value // one x}
instance:Inhabited One:=⟨⟨.bool false,rfl⟩⟩
variable {fr0:Fr}
theorem Yn {α:Type} (l:List α) {n base:Nat} {s:List KI} {Q:AE→Fr→H→Prop} (J:Nat→Fr→H→Prop) (E:AE→Fr→H→Prop) {σ0:H} (h0:J 0 fr0 σ0)
 (round:∀ i a,l[i]?=some a→∀ fr σ,J i fr σ→W P G n base x fr σ (Qbb (fun fr σ=>∃ fr' σ',Shift G n base fr σ fr' σ'∧J (i+1) fr' σ') E))
 (done:∀ i,i=l.length→∀ fr σ,J i fr σ→W P G n base x fr σ (Qbb (fun _ _=>False) E))
 (after:∀ e fr σ,E e fr σ→sem P G n base Q s e fr σ):sem P G n base Q (.ac (.loop x)::s) .nrm fr0 σ0:=by
 refine Zv (fun m fr σ=>∃ i,i≤l.length∧m=l.length - i∧J i fr σ) E (m0:=l.length) ⟨0,Nat.zero_le _,rfl,h0⟩ (fun m fr σ hJ=>?_) after
 obtain ⟨i,hi,rfl,hJ⟩:=hJ
 rcases Nat.lt_or_ge i l.length with hlt | hge
 ·refine (round i _ (List.getElem?_eq_getElem hlt) fr σ hJ).conseq fun e fr σ h=>?_
  cases e with
  | nrm=>obtain ⟨fr',σ',h1,h2⟩:=h; exact ⟨l.length - (i+1),fr',σ',by omega,h1,i+1,by omega,rfl,h2⟩
  | ex id=>exact h
  | ret=>exact h
 ·have:i=l.length:=by omega
  refine (done i this fr σ hJ).conseq fun e fr σ h=>?_
  cases e with
  | nrm=>exact h.elim
  | ex id=>exact h
  | ret=>exact h
theorem XQ (k:Nat) {n base:Nat} {s:List KI} {Q:AE→Fr→H→Prop} (J:Nat→Fr→H→Prop) (E:AE→Fr→H→Prop) {σ0:H} (h0:J 0 fr0 σ0)
 (round:∀ i,i<k→∀ fr σ,J i fr σ→W P G n base x fr σ (Qbb (fun fr σ=>∃ fr' σ',Shift G n base fr σ fr' σ'∧J (i+1) fr' σ') E))
 (done:∀ i,i=k→∀ fr σ,J i fr σ→W P G n base x fr σ (Qbb (fun _ _=>False) E))
 (after:∀ e fr σ,E e fr σ→sem P G n base Q s e fr σ):sem P G n base Q (.ac (.loop x)::s) .nrm fr0 σ0 :=
 Yn (List.range k) J E h0 (fun i a ha fr σ hJ=>round i (by simpa using (List.getElem?_eq_some_iff.1 ha).1) fr σ hJ) (fun i hi fr σ hJ=>done i (by simpa using hi) fr σ hJ) after
theorem XN {n base:Nat} {id:Nat} {s:List KI} {Q:AE→Fr→H→Prop} {fr:Fr} {σ:H} (l:Fr) (h:Qh8 fr l) (f:Nat) (k:run P G n base Q f (.ac c::s) .nrm l σ):sem P G n base Q (.blk id::.ac c::s) (.ex id) fr σ:=by
 show (if id=id then sem P G n base Q (.ac c::s) .nrm fr σ else sem P G n base Q (.ac c::s) (.ex id) fr σ)
 rw [if_pos rfl]
 exact QnH l h (Qg f k)
theorem QwR {n base:Nat} {id:Nat} {s:List KI} {Q:AE→Fr→H→Prop} {fr:Fr} {σ:H} (l:Fr) (h:Qh8 fr l) (k:sem P G n base Q (.ac c::s) .nrm l σ):sem P G n base Q (.blk id::.ac c::s) (.ex id) fr σ:=XN l h 0 k
theorem Qo2 {n base:Nat} {id j:Nat} {s:List KI} {Q:AE→Fr→H→Prop} {fr:Fr} {σ:H} (l:Fr) (h:Qh8 fr l) (f:Nat) (k:run P G n base Q f (.ac c::s) .nrm l σ):sem P G n base Q (.blk id::.blk j::.ac c::s) (.ex id) fr σ:=by
 show (if id=id then sem P G n base Q (.blk j::.ac c::s) .nrm fr σ else sem P G n base Q (.blk j::.ac c::s) (.ex id) fr σ)
 rw [if_pos rfl]
 exact QnH l h (Qg f k)
variable {k:Nat}
theorem Qzv {o:List (Option Ob)} {w T n:Nat} {lim:Option Nat} {ds:List V} (h:o[k]?=some (some (.arr w T (cs++ds)))) (hn:n=cs.length) (hc:∀ u∈cs,u.cells=[u]∧Qf u=true):Seen o (.sl k w 0 1 n lim) (.lst 1 cs false):=by
 subst hn
 exact Seen.row (o:=o) k w 0 1 lim T (cs++ds) cs h (fun j u hj=>by
  have hm:=hc u (List.mem_of_getElem? hj)
  have hlt:=(List.getElem?_eq_some_iff.1 hj).1
  rw [hm.1]
  refine ⟨rfl,fun i d hd=>?_⟩
  cases i with
  | zero =>
    simp at hd; subst hd
    refine ⟨?_,hm.2⟩
    rw [show 0+j * 1+0=j by omega,List.getElem?_append_left hlt]; exact hj
  | succ i=>simp at hd) (fun _=>rfl)
theorem QxU {w sz:Nat} (h:∀ u∈cs,u.cells=[u]):Zw k w cs (.sl k w 0 1 cs.length none)=.lst 1 cs false:=by
 simp [Zw,QjU]
end Go.Am
namespace Go.Am
open Go Go.RowKit
variable {P:Program} {G:Nat→Option V}
mutual
def bare:V→Bool
 | .int ..=>true
 | .bool _=>true
 | .str _=>true
 | .val _=>true
 | .ptr ..=>true
 | .sl ..=>true
 | .mp ..=>true
 | .lst _ [] _=>true
 | .agg l=>QuD l
 | .tup l=>QuD l
 | _=>false
def QuD:List V→Bool
 | []=>true
 | v::l=>bare v&&QuD l
end
theorem Qin:∀ {l:List V},QuD l=true→∀ (j:Nat) (v:V),l[j]?=some v→bare v=true
 | [],_,j,v,h=>by simp at h
 | u::l,hs,j,v,h=>by
   simp only [QuD,Bool.and_eq_true] at hs
   cases j with
   | zero=>simp at h; subst h; exact hs.1
   | succ j=>exact Qin hs.2 j v (by simpa using h)
theorem VR.bare {I:Imm} {ρ:Names} {v:V} {x:Value} (h:VR I ρ v x):bare v=true→∀ I',VR I' ρ v x:=by
 induction h with
 | int=>intros; exact .int _ _ _
 | bool=>intros; exact .bool _ _
 | str=>intros; exact .str _ _
 | val=>intros; exact .val _ _
 | ptr _ _ _ _ _ _ _ h=>intros; exact .ptr _ _ _ _ _ _ _ h
 | sl _ _ _ _ _ _ _ _ _ _ _ h h1 h2 h3=>intros; exact .sl _ _ _ _ _ _ _ _ _ _ _ h h1 h2 h3
 | slN _ _ _ _ _ _ h h1=>intros; exact .slN _ _ _ _ _ _ h h1
 | mp _ _ _ _ _ _ h=>intros; exact .mp _ _ _ _ _ _ h
 | lstN _ _ _ _ _ h=>intros; exact .lstN _ _ _ _ _ h
 | lst _ _ l _ _ _ _ _ h0 =>
   intro hs
   cases l with
   | nil=>exact absurd rfl h0
   | cons=>simp [Am.bare] at hs
 | agg _ l cs hl _ ih =>
   intro hs I'
   simp only [Am.bare] at hs
   exact .agg _ _ _ hl fun j v x h1 h2=>ih j v x h1 h2 (Qin hs j v h1) I'
 | tup _ l cs hl _ ih =>
   intro hs I'
   simp only [Am.bare] at hs
   exact .tup _ _ _ hl fun j v x h1 h2=>ih j v x h1 h2 (Qin hs j v h1) I'
 | _=>intro hs; simp [Am.bare] at hs
def QMr:Option Ob→Bool
 | none=>true
 | some (.arr _ _ cs)=>QuD cs
 | _=>false
theorem ObR.bare {I I':Imm} {ρ:Names} {w:World} {n:Nat} {ob:Ob} (h:ObR I ρ w n ob) (hb:QMr (some ob)=true):ObR I' ρ w n ob:=by
 cases ob with
 | arr v T cs =>
   simp only [QMr] at hb
   rcases h with h | ⟨b,o,e,c,lo,hi,h1,h2,h3,h4,h5,h6⟩
   ·exact .inl h
   ·exact .inr ⟨b,o,e,c,lo,hi,h1,h2,h3,h4,h5,fun j v hj=>let ⟨x,a,q,d⟩:=h6 j v hj; ⟨x,a,q.bare (Qin hb j v hj) I',d⟩⟩
 | _=>simp [QMr] at hb
end Go.Am
namespace Go.Am
open Go
section
variable (P:Program) (G:Nat→Option V)
end
variable {P:Program} {G:Nat→Option V}
end Go.Am
namespace Go.Am
open Go
variable {P:Program} {G:Nat→Option V}
end Go.Am
namespace Go.Am
open Go
end Go.Am
namespace Go.Am
variable {P:Program} {G:Nat→Option V}
end Go.Am
