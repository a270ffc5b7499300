/- A logic of programs over abstract values: joined texts. -/
import Derived.Test.YtoeicjlflmmmcaaGreatDoorAmA
import Derived.Laws.IdiomCopy
import Derived.Laws.Append
import Derived.Lib.ConvBytes
import Derived.Laws.BytesString
import Derived.ControlIn
import Derived.Scope
namespace Go.Am
open Go
variable {P:Program} {G:Nat→Option V} {I:Imm} {ρ:Names} {σ:H} {w:World} {n:Nat} {fr:Fr} {a:Act}
def QiC:V→Bool
 | .any=>false
 | .agg _=>false
 | .tup _=>false
 | .val x=>x.oneCell'
 | _=>true
def ones (l:List V):Prop:=∀ c∈l,QiC c=true
theorem Qw8 {v:V} {x:Value} (h:VR I ρ v x) (hv:QiC v=true):one x:=by
 cases h <;> first | (simp [QiC] at hv; done) | rfl | exact hv
variable {k m b off:Nat}
theorem Rel.upd (R:Rel G I ρ σ w) {base:Nat} (hbase:base≤k) {ρ':Names} {σ':H} {w':World} {ob:Ob} (h1:σ'.o[k]?=some (some ob)) (h2:∀ m,m≠k→σ'.o[m]?=σ.o[m]?) (h3:σ.t≤σ'.t)
 (h4:ρ.le ρ') (h5:∀ m v l,ρ' m v=some l→ρ m v=some l∨(m=k∧v=σ.t∧σ.t<σ'.t))
 (hos:w'.os=w.os) (htape:w'.tape=w.tape) (hout:w'.output=w.output) (hsize:w.heap.size≤w'.heap.size) (hold:∀ b,b<w.heap.size→blk ρ σ k≠some b→w'.heap[b]?=w.heap[b]?)
 (hob:ObR I ρ' w' k ob) (hnew:∀ b,(ρ' k ob.ver).bind Loc.block=some b→w.heap.size≤b∨blk ρ σ k=some b) :
 Rel G I ρ' σ' w'∧Step base I ρ σ w I ρ' σ' w':=by
 have hne:∀ m,m≠k→∀ v,ρ' m v=ρ m v:=fun m hm v=>by
  cases h:ρ' m v with
  | some l=>rcases h5 m v l h with h | ⟨h,_⟩
            ·exact h.symm
            ·exact absurd h hm
  | none=>cases h':ρ m v with
          | none=>rfl
          | some l=>have:=h4 m v l h'; rw [h] at this; cases this
 have hbne:∀ m,m≠k→blk ρ' σ' m=blk ρ σ m:=fun m hm=>by
  unfold blk
  rw [h2 m hm]
  cases σ.o[m]? with
  | none=>rfl
  | some o=>cases o with
    | none=>rfl
    | some o=>simp [hne m hm]
 have hbk:∀ b,blk ρ' σ' k=some b→w.heap.size≤b∨blk ρ σ k=some b:=fun b hb=>hnew b (by simpa [blk,h1] using hb)
 have himmb:∀ b o x,I b o=some x→b<w.heap.size∧blk ρ σ k≠some b:=fun b o x hx=>⟨block_lt_of_cell (R.imm b o x hx).1,fun e=>by rw [R.immsep k b e o] at hx; cases hx⟩
 refine ⟨⟨fun m ob' hm=>?_,fun m v l hl=>?_,fun m m' b e e'=>?_,fun b o x hx=>?_,fun m b e o=>?_,R.globs_to (Imm.le.refl _) fun b o x hx=>hold b (himmb b o x hx).1 (himmb b o x hx).2⟩,
  ⟨hos,htape,hout,hsize,h4,.refl _,h3,fun m v l hl=>(h5 m v l hl).imp id fun h=>by omega,fun b hb hnb=>hold b hb (hnb k hbase),fun m b hm e=>?_,fun b o h h'=>absurd h h',fun m hm=>.inl (h2 m (by omega))⟩⟩
 ·by_cases hmk:m=k
  ·subst hmk
   rw [h1] at hm; cases hm
   exact hob
  ·rw [h2 m hmk] at hm
   have:=(R.objs m ob' hm).mono (Imm.le.refl I) h4
   refine this.of_block fun b hb=>?_
   have hb':blk ρ σ m=some b:=by
    rw [hne m hmk] at hb
    simp [blk,hm,hb]
   exact hold b (Qdl R hb') fun e=>hmk (R.sep m k b hb' e)
 ·rcases h5 m v l hl with h | ⟨_,h,h'⟩
  ·exact Nat.lt_of_lt_of_le (R.fresh m v l h) h3
  ·omega
 ·by_cases hmk:m=k
  ·by_cases hmk':m'=k
   ·omega
   ·subst hmk
    rw [hbne m' hmk'] at e'
    rcases hbk b e with h | h
    ·have:=Qdl R e'; omega
    ·exact absurd (R.sep _ _ b e' h) hmk'
  ·rw [hbne m hmk] at e
   by_cases hmk':m'=k
   ·subst hmk'
    rcases hbk b e' with h | h
    ·have:=Qdl R e; omega
    ·exact absurd (R.sep _ _ b e h) hmk
   ·rw [hbne m' hmk'] at e'
    exact R.sep m m' b e e'
 ·have:=himmb b o x hx
  exact ⟨(Qfx (hold b this.1 this.2)).trans (R.imm b o x hx).1,(R.imm b o x hx).2⟩
 ·by_cases hmk:m=k
  ·subst hmk
   rcases hbk b e with h | h
   ·cases hI:I b o with
    | none=>rfl
    | some x=>have:=(himmb b o x hI).1; omega
   ·exact R.immsep m b h o
  ·rw [hbne m hmk] at e
   exact R.immsep m b e o
 ·by_cases hmk:m=k
  ·subst hmk
   exact (hbk b e).imp id fun h=>⟨m,hm,h⟩
  ·rw [hbne m hmk] at e
   exact .inr ⟨m,hm,e⟩
def Names.add (ρ:Names) (k v:Nat) (l:Loc):Names:=fun m u=>if m=k∧u=v then some l else ρ m u
theorem Names.add_le {ρ:Names} {v:Nat} {l:Loc} (h:ρ k v=none):ρ.le (ρ.add k v l):=fun m u l' hl=>by
 unfold Names.add
 split
 ·rename_i e; obtain ⟨rfl,rfl⟩:=e; rw [h] at hl; cases hl
 ·exact hl
theorem Names.add_self (ρ:Names) (k v:Nat) (l:Loc):(ρ.add k v l) k v=some l:=by simp [Names.add]
theorem Names.of_add {ρ:Names} {v:Nat} {l:Loc} {u:Nat} {l':Loc} (h:(ρ.add k v l) m u=some l'):ρ m u=some l'∨(m=k∧u=v):=by
 unfold Names.add at h
 split at h
 ·rename_i e; exact .inr e
 ·exact .inl h
theorem Rel.fresh_none (R:Rel G I ρ σ w) (k:Nat):ρ k σ.t=none:=by
 cases h:ρ k σ.t with
 | none=>rfl
 | some l=>have:=R.fresh _ _ _ h; omega
def H.push (σ:H) (ob:Ob):H:=⟨σ.t+1,σ.o++[some ob]⟩
theorem ZZ (w:World) (o:Obj) (hb:b<w.heap.size):(w.heap.push o)[b]?=w.heap[b]?:=by
 rw [Array.getElem?_push,if_neg (by omega)]
variable {cs l:List V}
theorem Rel.new (R:Rel G I ρ σ w) {base:Nat} (hbase:base≤σ.o.length) {T:TypeId} {c:Array Value} {d:Nat} (hc:∀ (j:Nat) (v:V),cs[j]?=some v→∃ x,c[j]?=some x∧VR I ρ v x∧one x) (hl:cs.length≤c.size) (e:Nat) (he:cs.length≤e) (he':e≤c.size) (fz:Nat × Nat) (hfz:Clr e fz.1 fz.2) :
 Rel G I (ρ.add σ.o.length σ.t (.at w.heap.size 0 e)) (σ.push (.arr σ.t T cs)) { w with heap:=w.heap.push (.cells c T fz),drawn:=d } ∧
 Step base I ρ σ w I (ρ.add σ.o.length σ.t (.at w.heap.size 0 e)) (σ.push (.arr σ.t T cs)) { w with heap:=w.heap.push (.cells c T fz),drawn:=d }:=by
 have hle:=Names.add_le (l:=.at w.heap.size 0 e) (R.fresh_none σ.o.length)
 refine R.upd hbase (ob:=.arr σ.t T cs) (by simp [H.push]) (fun m hm=>?_) (by simp [H.push]) hle (fun m v l h=>?_) rfl rfl rfl (by simp) (fun b hb _=>ZZ w _ hb) ?_ (fun b hb=>?_)
 ·simp only [H.push,List.getElem?_append]
  split
  ·rfl
  ·rename_i hlt
   rw [List.getElem?_eq_none (l:=σ.o) (by omega),List.getElem?_eq_none]
   simp; omega
 ·rcases Names.of_add h with h | ⟨rfl,rfl⟩
  ·exact .inl h
  ·exact .inr ⟨rfl,rfl,by simp [H.push]⟩
 ·refine .inr ⟨w.heap.size,0,e,c,fz.1,fz.2,Names.add_self _ _ _ _,by simp,by omega,he',hfz,fun j v hj=>?_⟩
  obtain ⟨x,h1,h2,h3⟩:=hc j v hj
  exact ⟨x,by simpa using h1,h2.mono (Imm.le.refl _) hle,h3⟩
 ·simp only [Ob.ver,Names.add_self,Option.bind_some,Loc.block,Option.some.injEq] at hb
  left; omega
theorem Rel.newmap (R:Rel G I ρ σ w) {base:Nat} (hbase:base≤σ.o.length) :
 Rel G I (ρ.add σ.o.length σ.t (.at w.heap.size 0 0)) (σ.push (.map σ.t [])) { w with heap:=w.heap.push (.map #[] 0) } ∧
 Step base I ρ σ w I (ρ.add σ.o.length σ.t (.at w.heap.size 0 0)) (σ.push (.map σ.t [])) { w with heap:=w.heap.push (.map #[] 0) }:=by
 have hle:=Names.add_le (l:=.at w.heap.size 0 0) (R.fresh_none σ.o.length)
 refine R.upd hbase (ob:=.map σ.t []) (by simp [H.push]) (fun m hm=>?_) (by simp [H.push]) hle (fun m v l h=>?_) rfl rfl rfl (by simp) (fun b hb _=>ZZ w _ hb) ?_ (fun b hb=>?_)
 ·simp only [H.push,List.getElem?_append]
  split
  ·rfl
  ·rename_i hlt
   rw [List.getElem?_eq_none (l:=σ.o) (by omega),List.getElem?_eq_none]
   simp; omega
 ·rcases Names.of_add h with h | ⟨rfl,rfl⟩
  ·exact .inl h
  ·exact .inr ⟨rfl,rfl,by simp [H.push]⟩
 ·exact ⟨w.heap.size,0,0,#[],Names.add_self _ _ _ _,by simp,rfl,fun i x h=>by simp at h,fun j p x h=>by simp at h⟩
 ·simp only [Ob.ver,Names.add_self,Option.bind_some,Loc.block,Option.some.injEq] at hb
  left; omega
theorem Rel.newiter (R:Rel G I ρ σ w) {base:Nat} (hbase:base≤σ.o.length) {nm mv o' e' cnt:Nat} (hm:ρ nm mv=some (.at m o' e')) :
 Rel G I (ρ.add σ.o.length σ.t (.at w.heap.size 0 0)) (σ.push (.it σ.t nm mv cnt [])) { w with heap:=w.heap.push (.mapIter (some m) cnt #[] cnt) } ∧
 Step base I ρ σ w I (ρ.add σ.o.length σ.t (.at w.heap.size 0 0)) (σ.push (.it σ.t nm mv cnt [])) { w with heap:=w.heap.push (.mapIter (some m) cnt #[] cnt) }:=by
 have hle:=Names.add_le (l:=.at w.heap.size 0 0) (R.fresh_none σ.o.length)
 refine R.upd hbase (ob:=.it σ.t nm mv cnt []) (by simp [H.push]) (fun m hm=>?_) (by simp [H.push]) hle (fun m v l h=>?_) rfl rfl rfl (by simp) (fun b hb _=>ZZ w _ hb) ?_ (fun b hb=>?_)
 ·simp only [H.push,List.getElem?_append]
  split
  ·rfl
  ·rename_i hlt
   rw [List.getElem?_eq_none (l:=σ.o) (by omega),List.getElem?_eq_none]
   simp; omega
 ·rcases Names.of_add h with h | ⟨rfl,rfl⟩
  ·exact .inl h
  ·exact .inr ⟨rfl,rfl,by simp [H.push]⟩
 ·exact ⟨w.heap.size,0,m,o',e',Names.add_self _ _ _ _,hle _ _ _ hm,by simp⟩
 ·simp only [Ob.ver,Names.add_self,Option.bind_some,Loc.block,Option.some.injEq] at hb
  left; omega
def QlN (cs:List V) (off:Nat) (l:List V):List V:=cs.take off++l++cs.drop (off+l.length)
theorem Qq9 (h:off+l.length≤cs.length):(QlN cs off l).length=cs.length:=by simp [QlN]; omega
theorem QzB (h:off+l.length≤cs.length) (j:Nat):(QlN cs off l)[j]?=if off≤j∧j<off+l.length then l[j - off]? else cs[j]?:=by
 unfold QlN
 rw [List.getElem?_append,List.getElem?_append]
 simp only [List.length_append,List.length_take,List.getElem?_take,List.getElem?_drop]
 have hm:min off cs.length=off:=by omega
 rw [hm]
 by_cases h1:j<off
 ·rw [if_pos (by omega),if_pos h1,if_pos h1,if_neg (by omega)]
 ·by_cases h2:j<off+l.length
  ·rw [if_pos h2,if_neg h1,if_pos (by omega)]
  ·rw [if_neg h2,if_neg (by omega)]
   congr 1; omega
theorem Rel.put (R:Rel G I ρ σ w) {base v T:Nat} (hbase:base≤k) (ho:σ.o[k]?=some (some (.arr v T cs))) (hl:off+l.length≤cs.length) {xs:List Value} (hxl:xs.length=l.length)
 (hx:∀ (j:Nat) (u:V) (x:Value),l[j]?=some u→xs[j]?=some x→VR I ρ u x∧one x) {o e:Nat} (hb:ρ k v=some (.at b o e)) :
 Rel G I ρ ⟨σ.t,σ.o.set k (some (.arr v T (QlN cs off l)))⟩ (w.setCells b (o+off) xs)∧Step base I ρ σ w I ρ ⟨σ.t,σ.o.set k (some (.arr v T (QlN cs off l)))⟩ (w.setCells b (o+off) xs):=by
 rcases R.objs k _ ho with ⟨h0,_⟩ | ⟨b',o',e',c,lo,hi,hn,hc,g1,g2,g3,g4⟩
 ·rw [hb] at h0; cases h0
 ·rw [hb] at hn; cases hn
  have hk:k<σ.o.length:=(List.getElem?_eq_some_iff.1 ho).1
  have hset:∀ (vs:List Value) (p:Nat) (w0:World) (c0:Array Value),w0.heap[b]?=some (.cells c0 T (lo,hi))→p+vs.length≤c0.size →
   ∃ c1:Array Value,(w0.setCells b p vs).heap[b]?=some (.cells c1 T (lo,hi))∧c1.size=c0.size∧(∀ j,c1[j]?=if p≤j∧j<p+vs.length then vs[j - p]? else c0[j]?)∧(w0.setCells b p vs).heap.size=w0.heap.size ∧
     (∀ b',b'≠b→(w0.setCells b p vs).heap[b']?=w0.heap[b']?)∧(w0.setCells b p vs).os=w0.os∧(w0.setCells b p vs).tape=w0.tape∧(w0.setCells b p vs).output=w0.output:=by
   intro vs
   induction vs with
   | nil=>intro p w0 c0 h _; exact ⟨c0,h,rfl,fun j=>by rw [if_neg (by simp only [List.length_nil]; omega)],rfl,fun _ _=>rfl,rfl,rfl,rfl⟩
   | cons y ys ih =>
     intro p w0 c0 h hp
     simp only [List.length_cons] at hp
     have h1:(w0.setCell ⟨b,p,none⟩ y).heap[b]?=some (.cells (c0.setIfInBounds p y) T (lo,hi)):=by
      simp [World.setCell,Array.getElem?_modify,h]
     obtain ⟨c1,a1,a2,a3,a4,a5,a6,a7,a8⟩:=ih (p+1) (w0.setCell ⟨b,p,none⟩ y) _ h1 (by simp; omega)
     refine ⟨c1,a1,by simpa using a2,fun j=>?_,by rw [World.setCells,a4]; simp [World.setCell],fun b' hb'=>?_,a6,a7,a8⟩
     ·rw [a3]
      simp only [List.length_cons]
      by_cases hj:j=p
      ·subst hj
       rw [if_neg (by omega),if_pos (by omega),Array.getElem?_setIfInBounds]
       simp; omega
      ·by_cases hj2:p+1≤j∧j<p+1+ys.length
       ·rw [if_pos hj2,if_pos (by omega)]
        obtain ⟨q,rfl⟩:∃ q,j=p+1+q:=⟨j - (p+1),by omega⟩
        rw [show p+1+q - (p+1)=q from by omega,show p+1+q - p=q+1 from by omega]
        simp
       ·rw [if_neg hj2,if_neg (by omega),Array.getElem?_setIfInBounds_ne (by omega)]
     ·rw [World.setCells,a5 b' hb']
      simp [World.setCell,Array.getElem?_modify]
      intro e; exact absurd e.symm hb'
  obtain ⟨c1,a1,a2,a3,a4,a5,a6,a7,a8⟩:=hset xs (o+off) w c hc (by omega)
  have hblk:blk ρ σ k=some b:=by simp [blk,ho,Ob.ver,hb,Loc.block]
  refine R.upd hbase (ob:=.arr v T (QlN cs off l)) (by simp [hk]) (fun m hm=>by simp [List.getElem?_set_ne (Ne.symm hm)]) (Nat.le_refl _) (Names.le.refl _) (fun m v l h=>.inl h) a6 a7 a8 (by omega) (fun b' hb' hne=>a5 b' fun e=>hne (e▸hblk)) ?_ (fun b' hb'=>?_)
  ·refine .inr ⟨b,o,e,c1,lo,hi,hb,a1,by rw [Qq9 hl]; exact g1,by omega,g3,fun j u hj=>?_⟩
   rw [QzB hl] at hj
   rw [a3]
   split at hj
   ·rename_i hjj
    have hjx:j - off<xs.length:=by omega
    refine ⟨xs[j - off],?_,hx (j - off) u _ hj (List.getElem?_eq_getElem hjx)⟩
    rw [if_pos (by omega),show o+j - (o+off)=j - off from by omega,List.getElem?_eq_getElem hjx]
   ·rename_i hjj
    obtain ⟨x,h1,h2⟩:=g4 j u hj
    exact ⟨x,by rw [if_neg (by omega)]; exact h1,h2⟩
  ·right
   simp only [Ob.ver,hb,Option.bind_some,Loc.block,Option.some.injEq] at hb'
   rw [hblk,hb']
mutual
def Qf:V→Bool
 | .ptr ..=>false
 | .sl ..=>false
 | .mp ..=>false
 | .agg l=>Qc l
 | .tup l=>Qc l
 | .fn _ l m=>Qc l&&Qc m
 | .iface _ x=>Qf x
 | _=>true
def Qc:List V→Bool
 | []=>true
 | v::l=>Qf v&&Qc l
end
theorem X4:∀ {l:List V},Qc l=true→∀ v∈l,Qf v=true
 | [],_,v,hv=>by cases hv
 | u::l,h,v,hv=>by
   simp only [Qc,Bool.and_eq_true] at h
   cases hv with
   | head=>exact h.1
   | tail _ hv=>exact X4 h.2 v hv
theorem VR.noNames {v:V} {x:Value} (h:VR I ρ v x):Qf v=true→VR I noNames v x:=by
 induction h with
 | any=>intro _; exact .any _ _
 | int=>intro _; exact .int _ _ _
 | bool=>intro _; exact .bool _ _
 | str=>intro _; exact .str _ _
 | val=>intro _; exact .val _ _
 | agg _ l cs hl _ ih =>
   intro hn
   simp only [Qf] at hn
   exact .agg _ _ _ hl fun j v x h1 h2=>ih j v x h1 h2 (X4 hn v (List.mem_of_getElem? h1))
 | tup _ l cs hl _ ih =>
   intro hn
   simp only [Qf] at hn
   exact .tup _ _ _ hl fun j v x h1 h2=>ih j v x h1 h2 (X4 hn v (List.mem_of_getElem? h1))
 | ptr=>intro hn; simp [Qf] at hn
 | ref _ _ _ _ _ f h1 h2 _=>intro _; exact .ref _ _ _ _ _ f h1 h2
 | sl=>intro hn; simp [Qf] at hn
 | slN=>intro hn; simp [Qf] at hn
 | lst _ _ _ _ _ _ _ f h0 h1 h2 h3 h4 h5 _=>intro _; exact .lst _ _ _ _ _ _ _ f h0 h1 h2 h3 h4 h5
 | lstN _ _ _ _ _ h=>intro _; exact .lstN _ _ _ _ _ h
 | mp=>intro hn; simp [Qf] at hn
 | fn _ _ l cs m ds h1 h2 _ _ ih1 ih2 =>
   intro hn
   simp only [Qf,Bool.and_eq_true] at hn
   exact .fn _ _ _ _ _ _ h1 h2 (fun j v x a b=>ih1 j v x a b (X4 hn.1 v (List.mem_of_getElem? a))) fun j v x a b=>ih2 j v x a b (X4 hn.2 v (List.mem_of_getElem? a))
 | iface _ _ _ _ _ ih=>intro hn; exact .iface _ _ _ _ (ih (by simpa [Qf] using hn))
def Qna (ks:List Kd) (k v:V):List (V × V)→List (V × V)
 | []=>[(k,v)]
 | (k',v')::r=>if Qdc ks k k' then (k',v)::r else (k',v')::Qna ks k v r
def Qbm (sz:Nat):Nat→List V→List V
 | 0,_=>[]
 | k+1,cs=>.agg (cs.take sz)::Qbm sz k (cs.drop sz)
def QMe (b:UInt8):V:=.int .u8 b.toNat
def isByte:V→Bool
 | .int .u8 n=>decide (0≤n∧n<256)
 | _=>false
def QgT:V→UInt8
 | .int _ n=>UInt8.ofNat n.toNat
 | _=>0
def Qpe (ks:List Kd) (k zero:V) (es:List (V × V)):List (V × V):=if (Qf2 ks k es).isSome then es else es++[(k,zero)]
def Qie (σ:H) (sz:Nat) (str:Bool) (x:V) (K:Nat→List V→Prop):Prop :=
 match str,x with
 | false,.lst s l _=>XU (s=sz∨l=[]) (K l.length (l.map V.cells).flatten)
 | false,.sl k v off s len _=>match σ.o[k]? with
   | some (some (.arr v' _ cs))=>XU (v=v'∧s=sz∧off+len * sz≤cs.length) (K len ((cs.drop off).take (len * sz)))
   | _=>False
 | true,.str s=>XU (sz=1) (K s.length (s.map fun b=>.int .u8 b.toNat))
 | _,_=>False
def QoY:V→Bool
 | .lst _ _ t=>t
 | .sl _ _ _ _ len lim=>lim==some len
 | _=>false
def QpF (base:Nat) (G:Nat→Option V) (fr:Fr) (σ:H) (K:V→H→Prop) (T sz bytes:Nat) (str:Bool) (s x:Arg):Prop :=
 match arg G fr s with
 | .sl k v off s' len none=>match σ.o[k]? with
   | some (some (.arr v' T' cs))=>Qie σ sz str (arg G fr x) fun m ln=>XU (v=v'∧T=T'∧s'=sz∧base≤k∧off+len * sz=cs.length∧(len+m) * bytes≤140737488355328∧len+m≤9223372036854775807)
    (K (.sl k σ.t 0 sz (len+m) none) ⟨σ.t+1,σ.o.set k (some (.arr σ.t T (cs.drop off++ln)))⟩)
   | _=>False
 | u=>XU (QoY u=true) (Qie σ sz false u fun len lo=>Qie σ sz str (arg G fr x) fun m ln=>XU ((len=0∨0<m)∧(len+m) * bytes≤140737488355328∧len+m≤9223372036854775807)
  (K (.sl σ.o.length σ.t 0 sz (len+m) none) (σ.push (.arr σ.t T (lo++ln)))))
def evW (base:Nat) (G:Nat→Option V) (fr:Fr) (σ:H) (K:V→H→Prop):AOp→Prop
 | .new T cs=>XU (ones cs) (K (.ptr σ.o.length σ.t 0) (σ.push (.arr σ.t T cs)))
 | .box T x=>XU (Qcr (arg G fr x)=true∧ones (arg G fr x).cells) (K (.ptr σ.o.length σ.t 0) (σ.push (.arr σ.t T (arg G fr x).cells)))
 | .store sz p x=>match arg G fr p with
   | .ptr k v off=>match σ.o[k]? with
     | some (some (.arr v' T cs))=>XU (v=v'∧base≤k∧off+sz≤cs.length∧Qcr (arg G fr x)=true∧(arg G fr x).cells.length=sz∧ones (arg G fr x).cells) (K (.tup []) ⟨σ.t,σ.o.set k (some (.arr v T (QlN cs off (arg G fr x).cells)))⟩)
     | _=>False
   | _=>False
 | .bsl true ag T sz zero len parts=>XU (∀ q∈parts,Qcr (arg G fr q.2.2)=true) (Qic G fr parts (List.replicate len zero).flatten fun cs=>XU (ones cs) (K (.sl σ.o.length σ.t 0 sz len none) (σ.push (.arr σ.t T cs))))
 | .bsl false ag T sz zero len parts=>XU (∀ q∈parts,Qcr (arg G fr q.2.2)=true) (Qic G fr parts (List.replicate len zero).flatten fun cs=>XU (ones cs∧Qc cs=true) (K (.lst sz (if ag then Qbm sz len cs else cs) true) σ))
 | .mkmap=>K (.mp σ.o.length σ.t) (σ.push (.map σ.t []))
 | .mksl T sz bytes zero l c=>match arg G fr l,arg G fr c with
   | .int _ l,.int _ c=>XU (0≤l∧l≤c∧c * bytes≤140737488355328∧c≤9223372036854775807∧ones zero) (K (.sl σ.o.length σ.t 0 sz l.toNat none) (σ.push (.arr σ.t T (List.replicate l.toNat zero).flatten)))
   | _,_=>False
 | .mapup ag ks m k x=>match arg G fr m with
   | .mp nm v=>match σ.o[nm]? with
     | some (some (.map v' es))=>XU (v=v'∧base≤nm∧Qcd ag ks (arg G fr k) es∧Qf (arg G fr k)=true) (K (.tup []) ⟨σ.t,σ.o.set nm (some (.map v (Qna ks (arg G fr k) (arg G fr x) es)))⟩)
     | _=>False
   | _=>False
 | .app T sz bytes str s x=>QpF base G fr σ K T sz bytes str s x
 | .appin sz bytes str s x=>match arg G fr s with
   | .sl k v off s' len lim=>match σ.o[k]? with
     | some (some (.arr v' T cs))=>Qie σ sz str (arg G fr x) fun m ln=>XU (v=v'∧s'=sz∧base≤k∧off+(len+m) * sz≤cs.length∧(∀ c,lim=some c→len+m≤c)) (K (.sl k v off sz (len+m) lim) ⟨σ.t,σ.o.set k (some (.arr v T (QlN cs (off+len * sz) ln)))⟩)
     | _=>False
   | _=>False
 | .copy sz str d s=>match arg G fr d with
   | .sl k v off s' len lim=>match σ.o[k]? with
     | some (some (.arr v' T cs))=>Qie σ sz str (arg G fr s) fun m ln=>XU (v=v'∧s'=sz∧base≤k∧off+len * sz≤cs.length) (K (.int .i64 (min m len:Nat)) ⟨σ.t,σ.o.set k (some (.arr v T (QlN cs off (ln.take (min m len * sz)))))⟩)
     | _=>False
   | _=>False
 | .clr sz zero x=>match arg G fr x with
   | .sl k v off s' len lim=>match σ.o[k]? with
     | some (some (.arr v' T cs))=>XU (v=v'∧s'=sz∧base≤k∧off+len * sz≤cs.length∧ones zero) (K (.tup []) ⟨σ.t,σ.o.set k (some (.arr v T (QlN cs off (List.replicate len zero).flatten)))⟩)
     | _=>False
   | _=>False
 | .ment ag ks zero m k=>match arg G fr m with
   | .mp nm v=>match σ.o[nm]? with
     | some (some (.map v' es))=>XU (v=v'∧base≤nm∧Qcd ag ks (arg G fr k) es∧Qf (arg G fr k)=true)
      (K (.tup [(Qku ks (arg G fr k) es).getD zero,.int .i64 ((Qf2 ks (arg G fr k) es).getD es.length:Nat)]) ⟨σ.t,σ.o.set nm (some (.map v (Qpe ks (arg G fr k) zero es)))⟩)
     | _=>False
   | _=>False
 | .mst m s x=>match arg G fr m,arg G fr s with
   | .mp nm v,.int _ i=>match σ.o[nm]? with
     | some (some (.map v' es))=>XU (v=v'∧base≤nm∧0≤i∧i.toNat<es.length) (K (.tup []) ⟨σ.t,σ.o.set nm (some (.map v (es.modify i.toNat fun p=>(p.1,arg G fr x))))⟩)
     | _=>False
   | _,_=>False
 | .iter x=>match arg G fr x with
   | .mp nm v=>match σ.o[nm]? with
     | some (some (.map v' es))=>XU (v=v') (K (.ptr σ.o.length σ.t 0) (σ.push (.it σ.t nm v es.length [])))
     | _=>False
   | _=>False
 | .next x=>match arg G fr x with
   | .ptr k v 0=>match σ.o[k]? with
     | some (some (.it v' nm mv cnt seen))=>match σ.o[nm]? with
       | some (some (.map mv' es))=>XU (v=v'∧base≤k∧mv=mv'∧cnt=es.length) (((∀ i,i<es.length→i∈seen)→K (.tup [.bool false]) σ) ∧
        ∀ i,i<es.length→i ∉ seen→K (.tup [.bool true,(es.getD i (.any,.any)).1,(es.getD i (.any,.any)).2]) ⟨σ.t,σ.o.set k (some (.it v nm mv cnt (seen++[i])))⟩)
       | _=>False
     | _=>False
   | _=>False
 | .entry x=>match arg G fr x with
   | .ptr k v 0=>match σ.o[k]? with
     | some (some (.it v' nm mv cnt seen))=>match σ.o[nm]?,seen.getLast? with
       | some (some (.map mv' es)),some i=>XU (v=v'∧mv=mv'∧cnt=es.length∧i<es.length) (K (.tup [(es.getD i (.any,.any)).1,(es.getD i (.any,.any)).2]) σ)
       | _,_=>False
     | _=>False
   | _=>False
 | .tostr x=>Qie σ 1 false (arg G fr x) fun _ ln=>XU (∀ c∈ln,isByte c=true) (K (.str (ln.map QgT)) σ)
 | .tobytes T x=>match arg G fr x with
   | .str s=>K (.sl σ.o.length σ.t 0 1 s.length none) (σ.push (.arr σ.t T (s.map QMe)))
   | _=>False
 | .mark x=>match arg G fr x with
   | .sl k v off sz len lim=>match σ.o[k]? with
     | some (some (.arr v' _ cs))=>XU (v=v'∧base≤k∧0<cs.length) (K (.sl k v off sz len lim) σ)
     | _=>False
   | _=>False
 | _=>False
def WrOk (P:Program) (G:Nat→Option V) (base:Nat) (I:Imm) (ρ:Names) (σ:H) (w:World) (s:Sem Next) (K:V→H→Prop):Prop :=
 ∃ v x I' ρ' σ' w',K v σ'∧VR I' ρ' v x∧Rel G I' ρ' σ' w'∧Step base I ρ σ w I' ρ' σ' w'∧σ.o.length≤σ'.o.length∧(s.run P w=.ok (.value x) w'∨(s.run P w=.ok .skip w'∧x=undef))
variable {c cn:Array Value} {cs l ln cs':List V}
theorem Qa7 (h:Cells I ρ cs c) (h1:ones cs):∀ (j:Nat) (v:V),cs[j]?=some v→∃ x,c[j]?=some x∧VR I ρ v x∧one x:=fun j v hj=>by
 have hjl:j<c.size:=by rw [← h.1]; exact (List.getElem?_eq_some_iff.1 hj).1
 have:=h.2 j v c[j] hj (Array.getElem?_eq_getElem hjl)
 exact ⟨c[j],Array.getElem?_eq_getElem hjl,this,Qw8 this (h1 v (List.mem_of_getElem? hj))⟩
variable {z y:Value}
theorem new_ok (hR:Rel G I ρ σ w) {base:Nat} (hb:base≤σ.o.length) {T:TypeId} (hz:zeroOf P T=some z) {K:V→H→Prop} (h:evW base G fr σ K (.new T (ZA z))):WrOk P G base I ρ σ w (do pure (.value (← Instr.alloc T true (.tuple #[])))) K:=by
 obtain ⟨h1,hk⟩:=h
 have hc:=Qa7 (I:=I) (ρ:=ρ) (Qbe z) h1
 have hl:(ZA z).length=z.cells.size:=(Qbe (I:=I) (ρ:=ρ) z).1
 obtain ⟨hR',hS⟩:=hR.new hb (T:=T) (d:=w.drawn) hc (Nat.le_of_eq hl) z.cells.size (Nat.le_of_eq hl) (Nat.le_refl _) (0,0) (.inl rfl)
 refine ⟨_,.pointer (some ⟨w.heap.size,0,none⟩),_,_,_,_,hk,?_,hR',hS,by simp [H.push],.inl ?_⟩
 ·exact VR.ptr (I:=I) _ σ.o.length σ.t 0 w.heap.size 0 z.cells.size (Names.add_self _ _ _ _)
 ·simp [Instr.alloc,QfO hz,newVar,newRow]
variable {x s m:Operand}
theorem box_ok (hR:Rel G I ρ σ w) (hF:FR I ρ n fr a) {base:Nat} (hb:base≤σ.o.length) {T:TypeId} {K:V→H→Prop} (h:evW base G fr σ K (.box T (Qa x))):WrOk P G base I ρ σ w (do pure (.value (← Instr.box T (a.eval x)))) K:=by
 obtain ⟨⟨h0,h1⟩,hk⟩:=h
 have hcs:=Qhp (QF hR hF x) h0
 have hc:=Qa7 hcs h1
 obtain ⟨hR',hS⟩:=hR.new hb (T:=T) (d:=w.drawn) hc (Nat.le_of_eq hcs.1) (a.eval x).cells.size (Nat.le_of_eq hcs.1) (Nat.le_refl _) (0,0) (.inl rfl)
 refine ⟨_,.pointer (some ⟨w.heap.size,0,none⟩),_,_,_,_,hk,?_,hR',hS,by simp [H.push],.inl ?_⟩
 ·exact VR.ptr (I:=I) _ σ.o.length σ.t 0 w.heap.size 0 (a.eval x).cells.size (Names.add_self _ _ _ _)
 ·simp [Instr.box,newVar,newRow]
variable {sz k t tx ty e bytes cap b T p off r clock:Nat}
theorem Qzp (hR:Rel G I ρ σ w) (hF:FR I ρ n fr a) {base:Nat} {t:TypeId} (hz:szOf P t=some sz) {p:Operand} {K:V→H→Prop} (h:evW base G fr σ K (.store sz (Qa p) (Qa x))) :
 WrOk P G base I ρ σ w (do (Instr.storeAt t (a.eval p) (a.eval x)); pure .skip) K:=by
 have hp:=QF hR hF p
 have hx:=QF hR hF x
 simp only [evW] at h
 generalize arg G fr (Qa p)=y at h hp
 generalize a.eval p=q at hp ⊢
 split at h <;> (try exact h.elim)
 rename_i k v off
 split at h <;> (try exact h.elim)
 rename_i v' T cs ho
 obtain ⟨⟨rfl,hb,hl,h0,hlen,h1⟩,hk⟩:=h
 have hcs:=Qhp hx h0
 cases hp with
 | ptr _ _ _ _ b o e hn =>
   rcases hR.objs k _ ho with ⟨h0,_⟩ | ⟨b',o',e',c,lo,hi,hn',hc,g1,g2,g3,g4⟩
   ·rw [hn] at h0; cases h0
   ·rw [hn] at hn'; cases hn'
    have hxl:(a.eval x).cells.toList.length=(arg G fr (Qa x)).cells.length:=by simp [hcs.1]
    obtain ⟨hR',hS⟩:=hR.put hb ho (off:=off) (l:=(arg G fr (Qa x)).cells) (by omega) hxl (fun j u y h2 h3=>by
     have h3':(a.eval x).cells[j]?=some y:=by simpa using h3
     have:=hcs.2 j u y h2 h3'
     exact ⟨this,Qw8 this (h1 u (List.mem_of_getElem? h2))⟩) hn
    refine ⟨_,undef,_,_,_,_,hk,?_,hR',hS,by simp,.inr ⟨?_,rfl⟩⟩
    ·exact .tup _ _ _ rfl fun j v x h=>by simp at h
    ·have hst:=run_storeCells_cells (P:=P) b (o+off) (a.eval x).cells.toList 0 w (fun j hj=>by
      rw [hxl,hlen] at hj
      have hjc:o+off+j<c.size:=by omega
      simp [World.cell?,hc,hjc]) (fun j hj=>by
      rw [hxl,hlen] at hj
      have:=Qny g3 (o+off+j) (by omega)
      simp only [World.frozen?,Nat.add_zero,hc]
      simpa using this) (fun y hy=>by
      obtain ⟨j,hj,rfl⟩:=List.getElem_of_mem hy
      have hjl:j<(arg G fr (Qa x)).cells.length:=by omega
      have:=hcs.2 j _ (a.eval x).cells.toList[j] (List.getElem?_eq_getElem hjl) (by simp)
      exact Qw8 this (h1 _ (List.getElem_mem hjl)))
     obtain ⟨i,hi,hs⟩:=Option.map_eq_some_iff.1 hz
     have hne:¬ (a.eval x).cells.size≠i.size:=by rw [hs,← hlen,hcs.1]; simp
     simp only [Nat.add_zero] at hst
     simp only [ne_eq,Decidable.not_not] at hne
     simp [Instr.storeAt,Instr.sureAddr,storeVar,sizeOf,typeInfo,hi,hne,hst]
theorem QzQ (hR:Rel G I ρ σ w) {base:Nat} (hb:base≤σ.o.length) {t:TypeId} {K:V→H→Prop} (h:evW base G fr σ K .mkmap):WrOk P G base I ρ σ w (do pure (.value (← Instr.makeMap t none))) K:=by
 obtain ⟨hR',hS⟩:=hR.newmap hb
 refine ⟨_,.map (some w.heap.size),_,_,_,_,h,?_,hR',hS,by simp [H.push],.inl ?_⟩
 ·exact VR.mp (I:=I) _ σ.o.length σ.t w.heap.size 0 0 (Names.add_self _ _ _ _)
 ·simp [Instr.makeMap]
structure SrcOk (P:Program) (I:Imm) (ρ:Names) (σ:H) (w:World) (sz:Nat) (x:Value) (m:Nat) (l:List V) (c:Array Value):Prop where
 cells:Cells I ρ l c
 ones:∀ (j:Nat) (y:Value),c[j]?=some y→one y
 len:l.length=m * sz
 lenOf:∀ w',(Builtin.lenOf x).run P w'=.ok m w'
 firstk:∀ k,k≤m→∀ w',Ek (QaS I ρ σ) w w'→(Builtin.firstCells sz k x).run P w'=.ok (c.extract 0 (k * sz)) w'
theorem SrcOk.first {P:Program} {I:Imm} {ρ:Names} {σ:H} {w:World} {x:Value} {m:Nat} (h:SrcOk P I ρ σ w sz x m l c):∀ w',Ek (QaS I ρ σ) w w'→(Builtin.firstCells sz m x).run P w'=.ok c w':=fun w' hw=>by
 have:=h.firstk m (Nat.le_refl _) w' hw
 rw [this]
 have e:c.size=m * sz:=by rw [← h.cells.1,h.len]
 congr 1
 apply Array.ext'
 simp only [Array.toList_extract,List.extract_eq_take_drop,List.drop_zero,Nat.sub_zero]
 rw [List.take_of_length_le (by simp; omega)]
theorem Qid {N:Nat} (f:Nat→Value) (h:k≤N):((List.range N).map f).toArray.extract 0 k=((List.range k).map f).toArray:=by
 apply Array.ext'
 simp only [Array.toList_extract,List.extract_eq_take_drop,List.drop_zero,Nat.sub_zero]
 rw [← List.map_take,List.take_range,Nat.min_eq_left h]
theorem flat_get (h:∀ (j:Nat) (v:V),l[j]?=some v→v.cells.length=sz):(l.map V.cells).flatten.length=l.length * sz ∧
 ∀ j i v,l[j]?=some v→i<sz→(l.map V.cells).flatten[j * sz+i]?=v.cells[i]?:=by
 induction l with
 | nil=>simp
 | cons u l ih =>
   obtain ⟨h1,h2⟩:=ih fun j v hj=>h (j+1) v (by simpa using hj)
   have h0:=h 0 u rfl
   refine ⟨by simp only [List.map_cons,List.flatten_cons,List.length_append,List.length_cons,h0,h1,Nat.succ_mul]; omega,fun j i v hj hi=>?_⟩
   simp only [List.map_cons,List.flatten_cons]
   cases j with
   | zero =>
     simp at hj; subst hj
     rw [List.getElem?_append_left (by omega)]
     simp
   | succ j =>
     have:=h2 j i v (by simpa using hj) hi
     rw [List.getElem?_append_right (by rw [h0,Nat.succ_mul]; omega)]
     rw [h0,show (j+1) * sz+i - sz=j * sz+i from by rw [Nat.succ_mul]; omega]
     exact this
variable {u:V} {str ag:Bool}
theorem src_ok (hR:Rel G I ρ σ w) (hsz:sz≠0) {x:Value} (hx:VR I ρ u x) {K:Nat→List V→Prop} (h:Qie σ sz str u K) :
 ∃ m l c,K m l∧SrcOk P I ρ σ w sz x m l c:=by
 unfold Qie at h
 cases hx with
 | lst _ s l tight b o cap f g0 g1 g2 g3 g4 g5 =>
   cases str with
   | true=>exact h.elim
   | false =>
     obtain ⟨hs,hk⟩:=h
     have hs:s=sz:=hs.resolve_right g0
     subst hs
     obtain ⟨f1,f2⟩:=flat_get g3
     have hcell:∀ j,j<l.length * s→∃ v,l[j / s]?=some v∧j % s<v.cells.length∧(l.map V.cells).flatten[j]?=v.cells[j % s]?:=fun j hj=>by
      have h1:j / s<l.length:=(Nat.div_lt_iff_lt_mul (by omega)).2 hj
      have h2:j % s<s:=Nat.mod_lt _ (by omega)
      refine ⟨l[j / s],List.getElem?_eq_getElem h1,by rw [g3 _ _ (List.getElem?_eq_getElem h1)]; exact h2,?_⟩
      have:=f2 (j / s) (j % s) _ (List.getElem?_eq_getElem h1) h2
      rw [← this]
      congr 1
      have:=Nat.div_add_mod j s
      rw [Nat.mul_comm] at this
      omega
     have haddr:∀ j,o+j / s * s+j % s=o+j:=fun j=>by
      have:=Nat.div_add_mod j s
      rw [Nat.mul_comm] at this
      omega
     refine ⟨_,_,((List.range (l.length * s)).map fun j=>f (j / s) (j % s)).toArray,hk,⟨by simp [f1],fun j v y h1 h2=>?_⟩,fun j y hy=>?_,f1,fun w'=>by simp [Builtin.lenOf],fun k hk w' hex=>?_⟩
     ·have hj:j<l.length * s:=by rw [← f1]; exact (List.getElem?_eq_some_iff.1 h1).1
      obtain ⟨v',e1,e2,e3⟩:=hcell j hj
      simp [hj] at h2
      subst h2
      rw [e3] at h1
      exact (g5 _ _ e1 _ _ h1).mono (Imm.le.refl _) (fun _ _ _ h=>by cases h)
     ·have hj:j<l.length * s:=by have:=(Array.getElem?_eq_some_iff.1 hy).1; simpa using this
      obtain ⟨v',e1,e2,e3⟩:=hcell j hj
      simp [hj] at hy
      subst hy
      exact (hR.imm _ _ _ (g4 _ _ e1 _ _ (List.getElem?_eq_getElem e2))).2
     ·have hks:k * s≤l.length * s:=Nat.mul_le_mul_right _ hk
      simp only [Builtin.firstCells]
      rw [Qid _ hks]
      exact run_loadCells (P:=P) w' ⟨b,o,none⟩ (k * s) (fun j=>f (j / s) (j % s)) fun j hj=>by
       obtain ⟨v',e1,e2,e3⟩:=hcell j (by omega)
       have:=g4 _ _ e1 _ _ (List.getElem?_eq_getElem e2)
       rw [haddr] at this
       rw [Addr.add_mk]
       exact Cell.imm hR this w' hex
 | lstN _ s tight ad cap hc0 =>
   cases str with
   | true=>exact h.elim
   | false =>
     refine ⟨_,_,#[],h.2,Cells.nil,fun j y hy=>by simp at hy,by simp,fun w'=>by simp [Builtin.lenOf],fun k hk w' hex=>?_⟩
     have hk0:k=0:=by simpa using hk
     subst hk0
     cases ad <;> simp [Builtin.firstCells,loadCells,loadCellsFrom]
 | sl _ k v off s len lim b o e cap hn g1 g2 g3 =>
   cases str with
   | true=>exact h.elim
   | false =>
     simp only at h
     split at h <;> (try exact h.elim)
     rename_i v' T cs ho
     obtain ⟨⟨rfl,rfl,hl⟩,hk⟩:=h
     obtain ⟨b',o',hb',f,hf,hc⟩:=QjN hR (VR.ptr (I:=I) ρ k v off b o e hn) ho
     simp only [Value.pointer.injEq,Option.some.injEq,Addr.mk.injEq,and_true] at hb'
     obtain ⟨rfl,hoo⟩:=hb'
     have hoo:o=o':=by omega
     subst hoo
     have hget:∀ j c,((cs.drop off).take (len * s))[j]?=some c→cs[off+j]?=some c∧j<len * s:=fun j c hj=>by
      simp only [List.getElem?_take,List.getElem?_drop] at hj
      split at hj
      ·exact ⟨hj,by assumption⟩
      ·cases hj
     refine ⟨_,_,((List.range (len * s)).map fun j=>f (off+j)).toArray,hk,⟨by simp; omega,fun j u y h1 h2=>?_⟩,fun j y hy=>?_,by simp; omega,fun w'=>by simp [Builtin.lenOf],fun i hi w' hex=>?_⟩
     ·obtain ⟨h3,h4⟩:=hget j u h1
      simp [h4] at h2
      subst h2
      exact (hf _ _ h3).1
     ·have hj:j<len * s:=by have:=(Array.getElem?_eq_some_iff.1 hy).1; simpa using this
      simp [hj] at hy
      subst hy
      exact (hf (off+j) _ (List.getElem?_eq_getElem (by omega))).2
     ·have hks:i * s≤len * s:=Nat.mul_le_mul_right _ hi
      simp only [Builtin.firstCells]
      rw [Qid _ hks]
      exact run_loadCells (P:=P) w' ⟨b,o+off,none⟩ (i * s) (fun j=>f (off+j)) fun j hj=>by
       rw [Addr.add_mk,Nat.add_assoc]
       exact hc (off+j) (by omega) w' hex
 | slN _ k v s lim ad hn hl0 =>
   cases str with
   | true=>exact h.elim
   | false =>
     simp only at h
     split at h <;> (try exact h.elim)
     rename_i v' T cs ho
     obtain ⟨⟨rfl,rfl,hl⟩,hk⟩:=h
     refine ⟨_,_,#[],hk,by simp; exact Cells.nil,fun j y hy=>by simp at hy,by simp,fun w'=>by simp [Builtin.lenOf],fun i hi w' hex=>?_⟩
     have hk0:i=0:=by simpa using hi
     subst hk0
     cases ad <;> simp [Builtin.firstCells,loadCells,loadCellsFrom]
 | str _ s =>
   cases str with
   | false=>exact h.elim
   | true =>
     obtain ⟨rfl,hk⟩:=h
     refine ⟨_,_,(s.map fun b=>Value.int .u8 b.toNat).toArray,hk,⟨by simp,fun j v y h1 h2=>?_⟩,fun j y hy=>?_,by simp,fun w'=>by simp [Builtin.lenOf,ByteArray.size],fun k hk w' hex=>?_⟩
     ·simp only [List.getElem?_map] at h1
      simp only [List.getElem?_toArray,List.getElem?_map] at h2
      cases hj:s[j]? with
      | none=>simp [hj] at h1
      | some b=>simp only [hj,Option.map_some,Option.some.injEq] at h1 h2; subst h1; subst h2; exact .int _ _ _
     ·simp only [List.getElem?_toArray,List.getElem?_map] at hy
      cases hj:s[j]? with
      | none=>simp [hj] at hy
      | some b=>simp only [hj,Option.map_some,Option.some.injEq] at hy; subst hy; rfl
     ·have h1:((⟨s.toArray⟩:ByteArray).extract 0 k).data=(s.take k).toArray:=by
       apply Array.ext'
       simp
      simp only [Builtin.firstCells,h1,Sem.run_pure]
      congr 1
      apply Array.ext'
      simp [List.map_take]
 | _=>cases str <;> exact h.elim
structure ElemT (P:Program) (t e:TypeId) (sz bytes:Nat) (z:Value):Prop where
 und:P.underlying t=some (.slice e)
 info:∃ i,P.info? e=some i∧i.size=sz∧i.bytes=bytes∧i.zero=some z
 zsz:z.cells.size=sz
 pos:sz≠0
variable {d:TypeDesc}
theorem Qo3 (hT:ElemT P t e sz bytes z) (htx:P.underlying tx=some d) (hd:d=.string∨∃ k,d=.slice k) {base:Option Addr} {x:Value} {len m:Nat} {lo:List V} {co:Array Value}
 (ho:SrcOk P I ρ σ w sz (.slice base len cap) len lo co) (hn:SrcOk P I ρ σ w sz x m ln cn) (hlt:cap<len+m) (hb:(len+m) * bytes≤140737488355328) (h63:len+m≤9223372036854775807) :
 (Builtin.append_ #[t,tx] ty #[.slice base len cap,x]).run P w=.ok (.slice (some ⟨w.heap.size,0,none⟩) (len+m) (grownCap w (len+m) cap e))
  (w.drew.alloc (.cells (co++cn++Builtin.zeroCells z.cells (grownCap w (len+m) cap e - (len+m))) e)):=by
 obtain ⟨i,hi,rfl,rfl,hz⟩:=hT.info
 have hno:¬ (len+m≤cap):=by omega
 have h63':¬ (9223372036854775807<((len:Int)+(m:Int))):=by omega
 have h48:=growslice_fits hlt hb
 have h48':¬ (281474976710656<Builtin.nextslicecap (len+m) cap * i.bytes):=by omega
 have hex:Ek (QaS I ρ σ) w w.drew:=⟨rfl,rfl,rfl,Nat.le_refl _,fun _ _ _=>rfl,fun _ _=>rfl⟩
 have hf:=hn.first _ hex
 have hfo:=ho.first _ hex
 have hl:=hn.lenOf w
 have hs:w.drew.heap.size=w.heap.size:=rfl
 obtain rfl | ⟨k,rfl⟩:=hd <;>
  simp [Builtin.append_,run_underlying hT.und,run_underlying htx,sizeOf,typeInfo,zeroValue,hi,hz,hl,hno,h63',h48',Question.forced,hf,hfo,newRow,grownCap,hs]
theorem Qbh (hT:ElemT P t e sz bytes z) (htx:P.underlying tx=some d) (hd:d=.string∨∃ k,d=.slice k) {base:Option Addr} {x:Value} {len m:Nat} 
 (hn:SrcOk P I ρ σ w sz x m ln cn) (hlt:len+m≤cap) :
 (Builtin.append_ #[t,tx] ty #[.slice base len cap,x]).run P w=match base with
  | some a=>((storeCells (a.add (len * sz)) cn.toList).run P w).andThen fun _ w'=>.ok (.slice base (len+m) cap) w'
  | none=>.ok (.slice base (len+m) cap) w:=by
 obtain ⟨i,hi,rfl,rfl,hz⟩:=hT.info
 have hf:=hn.first _ (Ek.refl _ w)
 have hl:=hn.lenOf w
 obtain rfl | ⟨k,rfl⟩:=hd <;> cases base <;> simp [Builtin.append_,run_underlying hT.und,run_underlying htx,sizeOf,typeInfo,hi,hl,hlt,hf]
theorem QhR {fz:Nat × Nat}:∀ (vs:List Value) (p:Nat) (w0:World) (c0:Array Value),w0.heap[b]?=some (.cells c0 T fz)→p+vs.length≤c0.size →
 ∃ c1:Array Value,(w0.setCells b p vs).heap[b]?=some (.cells c1 T fz)∧c1.size=c0.size∧(∀ j,c1[j]?=if p≤j∧j<p+vs.length then vs[j - p]? else c0[j]?)∧(w0.setCells b p vs).heap.size=w0.heap.size ∧
   (∀ b',b'≠b→(w0.setCells b p vs).heap[b']?=w0.heap[b']?)∧(w0.setCells b p vs).os=w0.os∧(w0.setCells b p vs).tape=w0.tape∧(w0.setCells b p vs).output=w0.output:=by
 intro vs
 induction vs with
 | nil=>intro p w0 c0 h _; exact ⟨c0,h,rfl,fun j=>by rw [if_neg (by simp only [List.length_nil]; omega)],rfl,fun _ _=>rfl,rfl,rfl,rfl⟩
 | cons y ys ih =>
   intro p w0 c0 h hp
   simp only [List.length_cons] at hp
   have h1:(w0.setCell ⟨b,p,none⟩ y).heap[b]?=some (.cells (c0.setIfInBounds p y) T fz):=by
    simp [World.setCell,Array.getElem?_modify,h]
   obtain ⟨c1,a1,a2,a3,a4,a5,a6,a7,a8⟩:=ih (p+1) (w0.setCell ⟨b,p,none⟩ y) _ h1 (by simp; omega)
   refine ⟨c1,a1,by simpa using a2,fun j=>?_,by rw [World.setCells,a4]; simp [World.setCell],fun b' hb'=>?_,a6,a7,a8⟩
   ·rw [a3]
    simp only [List.length_cons]
    by_cases hj:j=p
    ·subst hj
     rw [if_neg (by omega),if_pos (by omega),Array.getElem?_setIfInBounds]
     simp; omega
    ·by_cases hj2:p+1≤j∧j<p+1+ys.length
     ·rw [if_pos hj2,if_pos (by omega)]
      obtain ⟨q,rfl⟩:∃ q,j=p+1+q:=⟨j - (p+1),by omega⟩
      rw [show p+1+q - (p+1)=q from by omega,show p+1+q - p=q+1 from by omega]
      simp
     ·rw [if_neg hj2,if_neg (by omega),Array.getElem?_setIfInBounds_ne (by omega)]
   ·rw [World.setCells,a5 b' hb']
    simp [World.setCell,Array.getElem?_modify]
    intro e; exact absurd e.symm hb'
variable {xs:List Value}
theorem Rel.putX (R:Rel G I ρ σ w) {base v:Nat} (hbase:base≤k) (ho:σ.o[k]?=some (some (.arr v T cs))) {o:Nat} (hb:ρ k v=some (.at b o e)) (hp:xs≠[]→o+p+xs.length≤e) (hcs':o+off+cs'.length≤e)
 (hx:∀ (j:Nat) (u:V),cs'[j]?=some u→if p≤off+j∧off+j<p+xs.length then ∃ x,xs[off+j - p]?=some x∧VR I ρ u x∧one x else cs[off+j]?=some u) :
 Rel G I (ρ.add k σ.t (.at b (o+off) e)) ⟨σ.t+1,σ.o.set k (some (.arr σ.t T cs'))⟩ (w.setCells b (o+p) xs)∧Step base I ρ σ w I (ρ.add k σ.t (.at b (o+off) e)) ⟨σ.t+1,σ.o.set k (some (.arr σ.t T cs'))⟩ (w.setCells b (o+p) xs):=by
 rcases R.objs k _ ho with ⟨h0,_⟩ | ⟨b',o',e',c,lo,hi,hn,hc,g1,g2,g3,g4⟩
 ·rw [hb] at h0; cases h0
 ·rw [hb] at hn; cases hn
  have hk:k<σ.o.length:=(List.getElem?_eq_some_iff.1 ho).1
  have hle:=Names.add_le (l:=.at b (o+off) e) (R.fresh_none k)
  have hblk:blk ρ σ k=some b:=by simp [blk,ho,Ob.ver,hb,Loc.block]
  have hS:∃ c1:Array Value,(w.setCells b (o+p) xs).heap[b]?=some (.cells c1 T (lo,hi))∧c1.size=c.size∧(∀ j,c1[j]?=if o+p≤j∧j<o+p+xs.length then xs[j - (o+p)]? else c[j]?)∧(w.setCells b (o+p) xs).heap.size=w.heap.size ∧
   (∀ b',b'≠b→(w.setCells b (o+p) xs).heap[b']?=w.heap[b']?)∧(w.setCells b (o+p) xs).os=w.os∧(w.setCells b (o+p) xs).tape=w.tape∧(w.setCells b (o+p) xs).output=w.output:=by
   cases xs with
   | nil=>exact ⟨c,hc,rfl,fun j=>by rw [if_neg (by simp only [List.length_nil]; omega)],rfl,fun _ _=>rfl,rfl,rfl,rfl⟩
   | cons y ys=>exact QhR _ _ _ _ hc (by have:=hp (by simp); omega)
  obtain ⟨c1,a1,a2,a3,a4,a5,a6,a7,a8⟩:=hS
  refine R.upd hbase (ob:=.arr σ.t T cs') (by simp [hk]) (fun m hm=>by simp [List.getElem?_set_ne (Ne.symm hm)]) (by simp) hle (fun m u l h=>?_) a6 a7 a8 (by omega) (fun b' hb' hne=>a5 b' fun e=>hne (e▸hblk)) ?_ (fun b' hb'=>?_)
  ·rcases Names.of_add h with h | ⟨rfl,rfl⟩
   ·exact .inl h
   ·exact .inr ⟨rfl,rfl,by simp⟩
  ·refine .inr ⟨b,o+off,e,c1,lo,hi,Names.add_self _ _ _ _,a1,hcs',by omega,g3,fun j u hj=>?_⟩
   have hxj:=hx j u hj
   rw [a3]
   split at hxj
   ·rename_i hjj
    obtain ⟨x,h1,h2,h3⟩:=hxj
    refine ⟨x,?_,h2.mono (Imm.le.refl _) hle,h3⟩
    rw [if_pos (by omega),show o+off+j - (o+p)=off+j - p from by omega,h1]
   ·rename_i hjj
    obtain ⟨x,h1,h2,h3⟩:=g4 _ u hxj
    exact ⟨x,by rw [if_neg (by omega),Nat.add_assoc]; exact h1,h2.mono (Imm.le.refl _) hle,h3⟩
  ·right
   simp only [Ob.ver,Names.add_self,Option.bind_some,Loc.block,Option.some.injEq] at hb'
   rw [hblk,hb']
theorem Rel.nowhere (R:Rel G I ρ σ w) {base k T:Nat} (hbase:base≤k) {σ':H} (h1:σ'.o[k]?=some (some (.arr σ.t T []))) (h2:∀ m,m≠k→σ'.o[m]?=σ.o[m]?) (h3:σ'.t=σ.t+1) :
 Rel G I (ρ.add k σ.t .nowhere) σ' w∧Step base I ρ σ w I (ρ.add k σ.t .nowhere) σ' w:=by
 have hle:=Names.add_le (l:=.nowhere) (R.fresh_none k)
 refine R.upd hbase (ob:=.arr σ.t T []) h1 h2 (by omega) hle (fun m u l h=>?_) rfl rfl rfl (Nat.le_refl _) (fun _ _ _=>rfl) (.inl ⟨Names.add_self _ _ _ _,rfl⟩) (fun b' hb'=>?_)
 ·rcases Names.of_add h with h | ⟨rfl,rfl⟩
  ·exact .inl h
  ·exact .inr ⟨rfl,rfl,by omega⟩
 ·simp [Ob.ver,Names.add_self,Loc.block] at hb'
variable {σ':H}
theorem Rel.moved (R:Rel G I ρ σ w) {base:Nat} (hbase:base≤k) (h1:σ'.o[k]?=some (some (.arr σ.t T cs'))) (h2:∀ m,m≠k→σ'.o[m]?=σ.o[m]?) (h3:σ'.t=σ.t+1)
 (hc:∀ (j:Nat) (v:V),cs'[j]?=some v→∃ x,c[j]?=some x∧VR I ρ v x∧one x) (hl:cs'.length≤c.size) {d:Nat} :
 Rel G I (ρ.add k σ.t (.at w.heap.size 0 c.size)) σ' { w with heap:=w.heap.push (.cells c T (0,0)),drawn:=d }∧Step base I ρ σ w I (ρ.add k σ.t (.at w.heap.size 0 c.size)) σ' { w with heap:=w.heap.push (.cells c T (0,0)),drawn:=d }:=by
 have hle:=Names.add_le (l:=.at w.heap.size 0 c.size) (R.fresh_none k)
 refine R.upd hbase (ob:=.arr σ.t T cs') h1 h2 (by omega) hle (fun m u l h=>?_) rfl rfl rfl (by simp) (fun b hb _=>ZZ w _ hb) ?_ (fun b' hb'=>?_)
 ·rcases Names.of_add h with h | ⟨rfl,rfl⟩
  ·exact .inl h
  ·exact .inr ⟨rfl,rfl,by omega⟩
 ·refine .inr ⟨w.heap.size,0,c.size,c,0,0,Names.add_self _ _ _ _,by simp,by omega,Nat.le_refl _,.inl rfl,fun j v hj=>?_⟩
  obtain ⟨x,h1,h2,h3⟩:=hc j v hj
  exact ⟨x,by simpa using h1,h2.mono (Imm.le.refl _) hle,h3⟩
 ·simp only [Ob.ver,Names.add_self,Option.bind_some,Loc.block,Option.some.injEq] at hb'
  left; omega
theorem Qdj (h:Cells I ρ l c) (h1:∀ (j:Nat) (y:Value),c[j]?=some y→one y):∀ (j:Nat) (v:V),l[j]?=some v→∃ x,c[j]?=some x∧VR I ρ v x∧one x:=fun j v hj=>by
 have hjl:j<c.size:=by rw [← h.1]; exact (List.getElem?_eq_some_iff.1 hj).1
 exact ⟨c[j],Array.getElem?_eq_getElem hjl,h.2 j v c[j] hj (Array.getElem?_eq_getElem hjl),h1 _ _ (Array.getElem?_eq_getElem hjl)⟩
theorem Qj9 {l':List V} {c' z:Array Value} (h:Cells I ρ l c) (h1:∀ (j:Nat) (y:Value),c[j]?=some y→one y) (h':Cells I ρ l' c') (h1':∀ (j:Nat) (y:Value),c'[j]?=some y→one y) :
 ∀ (j:Nat) (v:V),(l++l')[j]?=some v→∃ x,(c++c'++z)[j]?=some x∧VR I ρ v x∧one x:=fun j v hj=>by
 have e1:=h.1
 have e2:=h'.1
 rw [List.getElem?_append] at hj
 split at hj
 ·rename_i hlt
  obtain ⟨x,a,b⟩:=Qdj h h1 j v hj
  exact ⟨x,by rw [Array.getElem?_append,if_pos (by simp; omega),Array.getElem?_append,if_pos (by omega)]; exact a,b⟩
 ·rename_i hlt
  have:=(List.getElem?_eq_some_iff.1 hj).1
  obtain ⟨x,a,b⟩:=Qdj h' h1' _ v hj
  exact ⟨x,by rw [Array.getElem?_append,if_pos (by simp; omega),Array.getElem?_append,if_neg (by omega),← e1]; exact a,b⟩
def Quiet (I:Imm) (ρ:Names) (σ:H) (w:World) (I':Imm) (ρ':Names) (σ':H) (w':World):Prop :=
 ∀ S,Guard S I ρ σ w→∃ S',S.le S'∧Ek S w w'∧Guard S' I' ρ' σ' w'
variable {w':World} {ρ':Names}
theorem Quiet.mk {I':Imm} (hE:∀ S,Guard S I ρ σ w→Ek S w w') (R':Rel G I' ρ' σ' w')
 (hr:∀ n v T cs b o e,σ'.o[n]?=some (some (.arr v T cs))→ρ' n v=some (.at b o e)→w.heap.size≤b∨∃ v1 T1 cs1 o1,σ.o[n]?=some (some (.arr v1 T1 cs1))∧ρ n v1=some (.at b o1 e)∧o1+cs1.length≤o+cs.length) :
 Quiet I ρ σ w I' ρ' σ' w':=by
 intro S g
 have hE:=hE S g
 have g0:=Guard.start R'
 refine ⟨S.join (QaS I' ρ' σ'),⟨fun b o h=>.inl h,fun b h=>.inl h⟩,hE,⟨fun b o h=>.inr h,fun b h=>.inr h⟩,fun n v T cs b o e h1 h2 j hj hje hc=>?_,fun n v T cs b o e h1 h2 hm=>?_,fun b o h=>?_,fun b h=>?_⟩
 ·rcases hc with hc | hc
  ·rcases hr _ _ _ _ _ _ _ h1 h2 with hb | ⟨v1,T1,cs1,o1,q1,q2,q3⟩
   ·have:=g.lt.1 _ _ hc; omega
   ·exact g.room n v1 T1 cs1 b o1 e q1 q2 j (by omega) hje hc
  ·exact g0.room n v T cs b o e h1 h2 j hj hje hc
 ·rcases hm with hm | hm
  ·rcases hr _ _ _ _ _ _ _ h1 h2 with hb | ⟨v1,T1,cs1,o1,q1,q2,q3⟩
   ·have:=g.lt.2 _ hm; omega
   ·exact g.rows n v1 T1 cs1 b o1 e q1 q2 hm
  ·exact g0.rows n v T cs b o e h1 h2 hm
 ·rcases h with h | h
  ·have:=g.lt.1 _ _ h; have:=hE.size; omega
  ·exact g0.lt.1 _ _ h
 ·rcases h with h | h
  ·have:=g.lt.2 _ h; have:=hE.size; omega
  ·exact g0.lt.2 _ h
theorem Quiet.putX {v:Nat} (ho:σ.o[k]?=some (some (.arr v T cs))) {o:Nat} (hb:ρ k v=some (.at b o e)) (R:Rel G I ρ σ w) (hp:xs≠[]→o+p+xs.length≤e) (hpl:cs.length≤p) (hl:cs.length≤off+cs'.length) (hρ:ρ'=ρ.add k σ.t (.at b (o+off) e)) (hσ:σ'=⟨σ.t+1,σ.o.set k (some (.arr σ.t T cs'))⟩) (hw:w'=w.setCells b (o+p) xs)
 (R':Rel G I ρ' σ' w'):Quiet I ρ σ w I ρ' σ' w':=by
 subst hρ; subst hσ; subst hw
 have hkl:k<σ.o.length:=(List.getElem?_eq_some_iff.1 ho).1
 refine Quiet.mk (fun S g=>?_) R' fun n u T' cs1 b1 o1 e1 h1 h2=>?_
 ·rcases R.objs k _ ho with ⟨h0,_⟩ | ⟨b',o',e',c,lo,hi,hn,hc,g1,g2,g3,g4⟩
  ·rw [hb] at h0; cases h0
  ·rw [hb] at hn; cases hn
   cases xs with
   | nil=>exact Ek.refl S w
   | cons y ys =>
     obtain ⟨c1,a1,a2,a3,a4,a5,a6,a7,a8⟩:=QhR (y::ys) (o+p) w c hc (by have:=hp (by simp); omega)
     refine ⟨a6,a7,a8,by omega,fun b1 o1 hs=>?_,fun b1 hs=>a5 b1 fun e=>?_⟩
     ·by_cases hbb:b1=b
      ·subst hbb
       have h1:¬ (o+p≤o1∧o1<o+p+(y::ys).length):=fun h2=>g.room k v T cs b1 o e ho hb o1 (by omega) (by have:=hp (by simp); omega) hs
       have:=a3 o1
       rw [if_neg h1] at this
       simp [World.cell?,a1,hc,this]
      ·simp [World.cell?,a5 b1 hbb]
     ·exact g.rows k v T cs b o _ ho hb (e▸hs)
 ·by_cases hn:n=k
  ·subst hn
   simp only [List.getElem?_set_self hkl,Option.some.injEq,Ob.arr.injEq] at h1
   obtain ⟨rfl,rfl,rfl⟩:=h1
   rw [Names.add_self] at h2
   cases h2
   exact .inr ⟨v,_,cs,o,ho,hb,by omega⟩
  ·rw [List.getElem?_set_ne (Ne.symm hn)] at h1
   rcases Names.of_add h2 with h2 | ⟨h2,_⟩
   ·exact .inr ⟨u,T',cs1,o1,h1,h2,Nat.le_refl _⟩
   ·exact absurd h2 hn
theorem Quiet.new {v':Nat} {l:Loc} (hρ:ρ'=ρ.add k v' l) (h1:σ'.o[k]?=some (some (.arr v' T cs'))) (h2:∀ m,m≠k→σ'.o[m]?=σ.o[m]?)
 (hl:∀ b o e,l=.at b o e→w.heap.size≤b) (hE:Ex w w') (R':Rel G I ρ' σ' w'):Quiet I ρ σ w I ρ' σ' w':=by
 subst hρ
 refine Quiet.mk (fun S g=>Ek.of_ex g hE) R' fun n u T' cs1 b1 o1 e1 g1 g2=>?_
 by_cases hn:n=k
 ·subst hn
  rw [h1] at g1
  cases g1
  rw [Names.add_self] at g2
  exact .inl (hl _ _ _ (Option.some.inj g2))
 ·rw [h2 n hn] at g1
  rcases Names.of_add g2 with h2 | ⟨h2,_⟩
  ·exact .inr ⟨u,T',cs1,o1,g1,h2,Nat.le_refl _⟩
  ·exact absurd h2 hn
theorem Qrw (w:World) (x:Obj) (d:Nat):Ex w { w with heap:=w.heap.push x,drawn:=d }:=⟨rfl,rfl,rfl,by simp,fun b hb=>ZZ w _ hb⟩
def WrOkQ (P:Program) (G:Nat→Option V) (base:Nat) (I:Imm) (ρ:Names) (σ:H) (w:World) (s:Sem Next) (K:V→H→Prop):Prop :=
 ∃ v x I' ρ' σ' w',K v σ'∧VR I' ρ' v x∧Rel G I' ρ' σ' w'∧Step base I ρ σ w I' ρ' σ' w'∧σ.o.length≤σ'.o.length∧(s.run P w=.ok (.value x) w'∨(s.run P w=.ok .skip w'∧x=undef))∧Quiet I ρ σ w I' ρ' σ' w'
theorem WrOkQ.wr {base:Nat} {s:Sem Next} {K:V→H→Prop} (h:WrOkQ P G base I ρ σ w s K):WrOk P G base I ρ σ w s K:=by
 obtain ⟨v,x,I',ρ',σ',w',h1,h2,h3,h4,h5,h6,_⟩:=h
 exact ⟨v,x,I',ρ',σ',w',h1,h2,h3,h4,h5,h6⟩
theorem QyE (hR:Rel G I ρ σ w) (hF:FR I ρ n fr a) {base:Nat} (hb:base≤σ.o.length) (hT:ElemT P t e sz bytes z) (htx:P.underlying tx=some d) (hd:d=.string∨∃ k,d=.slice k)
 {K:V→H→Prop} (h:QpF base G fr σ K e sz bytes str (Qa s) (Qa x)) :
 WrOkQ P G base I ρ σ w (do pure (.value (← Builtin.append_ #[t,tx] ty #[a.eval s,a.eval x]))) K:=by
 have hs:=QF hR hF s
 have hx:=QF hR hF x
 unfold QpF at h
 generalize arg G fr (Qa s)=u at h hs
 generalize a.eval s=sv at hs ⊢
 generalize a.eval x=xv at hx ⊢
 have grow:∀ {base:Option Addr} {len cap m:Nat} {lo ln:List V} {co cn:Array Value},SrcOk P I ρ σ w sz (.slice base len cap) len lo co→SrcOk P I ρ σ w sz xv m ln cn→cap<len+m→(len+m) * bytes≤140737488355328→len+m≤9223372036854775807 →
  ∃ c:Array Value,(Builtin.append_ #[t,tx] ty #[.slice base len cap,xv]).run P w=.ok (.slice (some ⟨w.heap.size,0,none⟩) (len+m) (grownCap w (len+m) cap e)) { w with heap:=w.heap.push (.cells c e (0,0)),drawn:=w.drawn+1 } ∧
    c.size=grownCap w (len+m) cap e * sz∧len+m≤grownCap w (len+m) cap e∧(∀ (j:Nat) (v:V),(lo++ln)[j]?=some v→∃ x,c[j]?=some x∧VR I ρ v x∧one x)∧(lo++ln).length≤c.size:=by
  intro base len cap m lo ln co cn ho hn h1 h2 h3
  have hge:=grownCap_ge w (len+m) cap e
  have hsz:(co++cn++Builtin.zeroCells z.cells (grownCap w (len+m) cap e - (len+m))).size=grownCap w (len+m) cap e * sz:=by
   have e1:=ho.cells.1
   have e2:=hn.cells.1
   have e3:=ho.len
   have e4:=hn.len
   have e5:grownCap w (len+m) cap e * sz=(len+m) * sz+(grownCap w (len+m) cap e - (len+m)) * sz:=by rw [← Nat.add_mul]; congr 1; omega
   simp only [Array.size_append,size_zeroCells,hT.zsz]
   rw [e5,← e1,← e2,e3,e4,Nat.add_mul]
  refine ⟨_,Qo3 hT htx hd ho hn h1 h2 h3,hsz,hge,Qj9 ho.cells ho.ones hn.cells hn.ones,?_⟩
  rw [hsz,List.length_append,ho.len,hn.len,← Nat.add_mul]
  exact Nat.mul_le_mul_right _ hge
 split at h
 ·rename_i k v off s' len
  split at h <;> (try exact h.elim)
  rename_i v' T' cs hob
  obtain ⟨m,ln,cn,⟨⟨rfl,rfl,rfl,hbk,hlen,hby,h63⟩,hk⟩,hn⟩:=src_ok (P:=P) hR hT.pos hx h
  have hkl:k<σ.o.length:=(List.getElem?_eq_some_iff.1 hob).1
  have hsz:((cs.drop off).length=len * s'):=by simp; omega
  have hset:∀ m',m'≠k→(σ.o.set k (some (.arr σ.t e (cs.drop off++ln))))[m']?=σ.o[m']?:=fun m' hm=>by simp [List.getElem?_set_ne (Ne.symm hm)]
  have hsame:(σ.o.set k (some (.arr σ.t e (cs.drop off++ln))))[k]?=some (some (.arr σ.t e (cs.drop off++ln))):=by simp [hkl]
  cases hs with
  | sl _ _ _ _ _ _ _ b o e' cap hnm g1 g2 g3 =>
    have g3:=g3 rfl
    obtain ⟨m0,lo0,co,⟨hm0,hlo0⟩,ho⟩:=src_ok (P:=P) (str:=false) (K:=fun m l=>m=len∧l=(cs.drop off).take (len * s')) hR hT.pos (VR.sl (I:=I) ρ k v off s' len none b o e' cap hnm g1 (fun _ h=>by cases h) (fun _=>g3)) (by
     simp only [Qie,hob,XU]
     refine ⟨⟨?_,?_,?_⟩,?_,?_⟩ <;> first | trivial | omega)
    have htk:(cs.drop off).take (len * s')=cs.drop off:=List.take_of_length_le (by omega)
    rw [hm0,hlo0,htk] at ho
    by_cases hfit:len+m≤cap
    ·have hrun:=Qbh (ty:=ty) (base:=some ⟨b,o+off,none⟩) hT htx hd hn hfit
     simp only [Addr.add_mk] at hrun
     have hcap:(len+m) * s'≤cap * s':=Nat.mul_le_mul_right _ hfit
     rw [Nat.add_mul] at hcap
     have hcn:cn.toList.length=m * s':=by rw [← hn.len,hn.cells.1]; simp
     have hcsz:=hn.cells.1
     obtain ⟨hR',hS⟩:=hR.putX hbk hob hnm (p:=cs.length) (off:=off) (xs:=cn.toList) (cs':=cs.drop off++ln) (fun _=>by omega) (by rw [List.length_append,hsz,hn.len]; omega) (fun j u hj=>by
      rw [List.getElem?_append] at hj
      split at hj
      ·rw [if_neg (by omega)]
       simpa [List.getElem?_drop] using hj
      ·rename_i hge
       have hlt:=(List.getElem?_eq_some_iff.1 hj).1
       have hll:=hn.len
       rw [if_pos (by omega)]
       obtain ⟨y,h1,h2⟩:=Qdj hn.cells hn.ones _ u hj
       exact ⟨y,by rw [show off+j - cs.length=j - (cs.drop off).length from by omega]; simpa using h1,h2⟩)
     refine ⟨_,.slice (some ⟨b,o+off,none⟩) (len+m) cap,_,_,_,_,hk,?_,hR',hS,by simp,.inl ?_,Quiet.putX hob hnm hR (fun _=>by omega) (Nat.le_refl _) (by rw [List.length_append,hsz]; omega) rfl rfl rfl hR'⟩
     ·have:=VR.sl (I:=I) (ρ.add k σ.t (.at b (o+off) e')) k σ.t 0 s' (len+m) none b (o+off) e' cap (Names.add_self _ _ _ _) hfit (fun _ h=>by cases h) (fun _=>by omega)
      simpa using this
     ·rcases hR.objs k _ hob with ⟨h0,_⟩ | ⟨b',o',e'',c,lo,hi,hn',hc,q1,q2,q3,q4⟩
      ·rw [hnm] at h0; cases h0
      ·rw [hnm] at hn'; cases hn'
       have hst:=run_storeCells_cells (P:=P) b (o+off+len * s') cn.toList 0 w (fun j hj=>by
        have hjc:o+off+len * s'+j<c.size:=by omega
        simp [World.cell?,hc,hjc]) (fun j hj=>by
        have:=Qny q3 (o+off+len * s'+j) (by omega)
        simp only [World.frozen?,Nat.add_zero,hc]
        simpa using this) (fun y hy=>by
        obtain ⟨j,hj,rfl⟩:=List.getElem_of_mem hy
        exact hn.ones j _ (by simp at hj ⊢))
       simp only [Nat.add_zero] at hst
       have hpos:o+off+len * s'=o+cs.length:=by omega
       rw [hpos] at hst
       simp only [hpos,hst,Result.andThen] at hrun
       simp [hrun]
    ·obtain ⟨c,hrun,c1,c2,c3,c4⟩:=grow ho hn (by omega) hby h63
     obtain ⟨hR',hS⟩:=hR.moved (T:=e) (σ':=⟨σ.t+1,σ.o.set k (some (.arr σ.t e (cs.drop off++ln)))⟩) hbk hsame hset rfl c3 c4 (d:=w.drawn+1)
     refine ⟨_,.slice (some ⟨w.heap.size,0,none⟩) (len+m) (grownCap w (len+m) cap e),_,_,_,_,hk,?_,hR',hS,by simp,.inl ?_,Quiet.new rfl hsame hset (fun _ _ _ h=>by cases h; exact Nat.le_refl _) (Qrw w _ _) hR'⟩
     ·exact VR.sl (I:=I) _ k σ.t 0 s' (len+m) none w.heap.size 0 c.size _ (Names.add_self _ _ _ _) c2 (fun _ h=>by cases h) (fun _=>by omega)
     ·simp [hrun]
  | slN _ _ _ _ _ ad hnm hl0 =>
    rcases hR.objs k _ hob with ⟨_,h0⟩ | ⟨b',o',e'',c,lo,hi,hn',_⟩
    ·subst h0
     obtain ⟨m0,lo0,co,⟨hm0,hlo0⟩,ho⟩:=src_ok (P:=P) (str:=false) (K:=fun m l=>m=0∧l=[]) hR hT.pos (VR.slN (I:=I) ρ k v s' none ad hnm (fun _ h=>by cases h)) (by
      simp [Qie,hob,XU])
     rw [hm0,hlo0] at ho
     by_cases hm:m=0
     ·subst hm
      have hln:ln=[]:=List.length_eq_zero_iff.1 (by have:=hn.len; omega)
      subst hln
      have hcn:cn=#[]:=by have:=hn.cells.1; exact Array.eq_empty_of_size_eq_zero (by simpa using this.symm)
      subst hcn
      have hrun:=Qbh (ty:=ty) (base:=ad) hT htx hd hn (Nat.le_refl 0)
      obtain ⟨hR',hS⟩:=hR.nowhere (T:=e) (σ':=⟨σ.t+1,σ.o.set k (some (.arr σ.t e ([].drop 0++[])))⟩) hbk hsame hset rfl
      refine ⟨_,.slice ad 0 0,_,_,_,_,hk,VR.slN (I:=I) _ k σ.t s' none ad (Names.add_self _ _ _ _) (fun _ h=>by cases h),hR',hS,by simp,.inl ?_,Quiet.new rfl hsame hset (fun _ _ _ h=>by cases h) (Ex.refl w) hR'⟩
      cases ad <;> simp at hrun <;> simp [hrun,storeCells]
     ·obtain ⟨c,hrun,c1,c2,c3,c4⟩:=grow ho hn (by omega) hby h63
      obtain ⟨hR',hS⟩:=hR.moved (T:=e) (σ':=⟨σ.t+1,σ.o.set k (some (.arr σ.t e ([].drop 0++ln)))⟩) hbk hsame hset rfl c3 c4 (d:=w.drawn+1)
      refine ⟨_,.slice (some ⟨w.heap.size,0,none⟩) (0+m) (grownCap w (0+m) 0 e),_,_,_,_,hk,?_,hR',hS,by simp,.inl ?_,Quiet.new rfl hsame hset (fun _ _ _ h=>by cases h; exact Nat.le_refl _) (Qrw w _ _) hR'⟩
      ·exact VR.sl (I:=I) _ k σ.t 0 s' (0+m) none w.heap.size 0 c.size _ (Names.add_self _ _ _ _) c2 (fun _ h=>by cases h) (fun _=>by omega)
      ·simp [hrun]
    ·rw [hnm] at hn'; cases hn'
 ·obtain ⟨ht,h⟩:=h
  have hpush1:∀ (ob:Ob),(σ.push ob).o[σ.o.length]?=some (some ob):=fun ob=>by simp [H.push]
  have hpush:∀ {ob:Ob} (m:Nat),m≠σ.o.length→(σ.push ob).o[m]?=σ.o[m]?:=fun m hm=>by
   simp only [H.push,List.getElem?_append]
   split
   ·rfl
   ·rw [List.getElem?_eq_none (l:=σ.o) (by omega),List.getElem?_eq_none]
    simp; omega
  obtain ⟨len,lo,co,h,ho⟩:=src_ok (P:=P) hR hT.pos hs h
  obtain ⟨m,ln,cn,⟨⟨h0,hby,h63⟩,hk⟩,hn⟩:=src_ok (P:=P) hR hT.pos hx h
  have hsv:∃ ad,sv=.slice ad len len:=by
   have hl:=ho.lenOf w
   cases hs with
   | sl _ _ _ _ _ _ _ _ _ _ cap _ _ g2 =>
     simp [QoY] at ht
     simp [Builtin.lenOf] at hl
     subst hl
     obtain ⟨rfl,_⟩:=g2 _ ht
     exact ⟨_,rfl⟩
   | slN=>simp [Builtin.lenOf] at hl; subst hl; exact ⟨_,rfl⟩
   | lst _ _ _ _ _ _ _ _ _ _ g2 =>
     simp [Builtin.lenOf] at hl
     subst hl
     exact ⟨_,by rw [g2 ht]⟩
   | lstN _ _ _ _ _ g =>
     simp [Builtin.lenOf] at hl
     subst hl
     exact ⟨_,by rw [g ht]⟩
   | _=>simp [QoY] at ht
  obtain ⟨ad,rfl⟩:=hsv
  by_cases hm:m=0
  ·subst hm
   have hl0:len=0:=by omega
   subst hl0
   have hlo:lo=[]:=List.length_eq_zero_iff.1 (by have:=ho.len; omega)
   have hln:ln=[]:=List.length_eq_zero_iff.1 (by have:=hn.len; omega)
   subst hlo; subst hln
   have hcn:cn=#[]:=by have:=hn.cells.1; exact Array.eq_empty_of_size_eq_zero (by simpa using this.symm)
   subst hcn
   have hrun:=Qbh (ty:=ty) (base:=ad) hT htx hd hn (Nat.le_refl 0)
   obtain ⟨hR',hS⟩:=hR.nowhere (T:=e) (σ':=σ.push (.arr σ.t e ([]++[]))) hb (by simp [H.push]) hpush rfl
   refine ⟨_,.slice ad 0 0,_,_,_,_,hk,VR.slN (I:=I) _ σ.o.length σ.t sz none ad (Names.add_self _ _ _ _) (fun _ h=>by cases h),hR',hS,by simp [H.push],.inl ?_,Quiet.new rfl (hpush1 _) hpush (fun _ _ _ h=>by cases h) (Ex.refl w) hR'⟩
   cases ad <;> simp at hrun <;> simp [hrun,storeCells]
  ·obtain ⟨c,hrun,c1,c2,c3,c4⟩:=grow ho hn (by omega) hby h63
   obtain ⟨hR',hS⟩:=hR.moved (T:=e) (σ':=σ.push (.arr σ.t e (lo++ln))) hb (by simp [H.push]) hpush rfl c3 c4 (d:=w.drawn+1)
   refine ⟨_,.slice (some ⟨w.heap.size,0,none⟩) (len+m) (grownCap w (len+m) len e),_,_,_,_,hk,?_,hR',hS,by simp [H.push],.inl ?_,Quiet.new rfl (hpush1 _) hpush (fun _ _ _ h=>by cases h; exact Nat.le_refl _) (Qrw w _ _) hR'⟩
   ·exact VR.sl (I:=I) _ σ.o.length σ.t 0 sz (len+m) none w.heap.size 0 c.size _ (Names.add_self _ _ _ _) c2 (fun _ h=>by cases h) (fun _=>by omega)
   ·simp [hrun]
theorem app_ok (hR:Rel G I ρ σ w) (hF:FR I ρ n fr a) {base:Nat} (hb:base≤σ.o.length) (hT:ElemT P t e sz bytes z) (htx:P.underlying tx=some d) (hd:d=.string∨∃ k,d=.slice k)
 {K:V→H→Prop} (h:QpF base G fr σ K e sz bytes str (Qa s) (Qa x)) :
 WrOk P G base I ρ σ w (do pure (.value (← Builtin.append_ #[t,tx] ty #[a.eval s,a.eval x]))) K:=(QyE hR hF hb hT htx hd h).wr
theorem Rel.newimm (R:Rel G I ρ σ w) {base:Nat} {T:TypeId} (h1:∀ (j:Nat) (x:Value),c[j]?=some x→one x) {d:Nat} :
 ∃ I',(∀ (j:Nat) (x:Value),c[j]?=some x→I' w.heap.size j=some x)∧I.le I'∧Rel G I' ρ σ { w with heap:=w.heap.push (.cells c T (0,0)),drawn:=d }∧Step base I ρ σ w I' ρ σ { w with heap:=w.heap.push (.cells c T (0,0)),drawn:=d }:=by
 have hIn:∀ o,I w.heap.size o=none:=fun o=>by
  cases h:I w.heap.size o with
  | none=>rfl
  | some x=>have:=block_lt_of_cell (R.imm _ _ _ h).1; simp at this
 have hE:Ex w { w with heap:=w.heap.push (.cells c T (0,0)),drawn:=d }:=⟨rfl,rfl,rfl,by simp,fun b hb=>ZZ w _ hb⟩
 have R':=R.ex hE
 obtain ⟨I',hI'⟩:∃ I':Imm,∀ b o,I' b o=if b=w.heap.size then c[o]? else I b o:=⟨_,fun _ _=>rfl⟩
 have hle:I.le I':=fun b o x h=>by
  rw [hI']
  split
  ·rename_i e; subst e; rw [hIn] at h; cases h
  ·exact h
 refine ⟨I',fun j x hx=>by rw [hI',if_pos rfl,hx],hle,
  ⟨fun m ob hm=>(R'.objs m ob hm).mono hle (Names.le.refl _),R'.fresh,R'.sep,fun b o x hx=>?_,fun m b e o=>?_,R'.globs_to hle fun _ _ _ _=>rfl⟩,
  ⟨rfl,rfl,rfl,by simp,.refl _,hle,Nat.le_refl _,fun _ _ _ h=>.inl h,fun b hb _=>hE.old b hb,fun m b hm e=>.inr ⟨m,hm,e⟩,fun b o h h'=>?_,fun _ _=>.inl rfl⟩⟩
 ·rw [hI'] at hx
  split at hx
  ·rename_i e
   subst e
   exact ⟨by simp [World.cell?,hx],h1 _ _ hx⟩
  ·exact R'.imm b o x hx
 ·have:=Qdl R e
  rw [hI',if_neg (by omega)]
  exact R.immsep m b e o
 ·rw [hI'] at h'
  split at h'
  ·left; omega
  ·exact absurd h h'
theorem Rel.freeze (R:Rel G I ρ σ w) {base v:Nat} (hbase:base≤k) (ho:σ.o[k]?=some (some (.arr v T cs))) (hn:Qc cs=true) :
 ∃ I',I.le I'∧Rel G I' ρ ⟨σ.t,σ.o.set k none⟩ w∧Step base I ρ σ w I' ρ ⟨σ.t,σ.o.set k none⟩ w ∧
   (∀ b o e,ρ k v=some (.at b o e)→∃ f:Nat→Value,∀ (j:Nat) (u:V),cs[j]?=some u→I' b (o+j)=some (f j)∧VR I' noNames u (f j)):=by
 have hk:k<σ.o.length:=(List.getElem?_eq_some_iff.1 ho).1
 have hset:∀ m,m≠k→(σ.o.set k none)[m]?=σ.o[m]?:=fun m hm=>by simp [List.getElem?_set_ne (Ne.symm hm)]
 have hat:(σ.o.set k none)[k]?=some none:=by simp [hk]
 have hbne:∀ m,m≠k→blk ρ ⟨σ.t,σ.o.set k none⟩ m=blk ρ σ m:=fun m hm=>by unfold blk; rw [hset m hm]
 have hbk:blk ρ ⟨σ.t,σ.o.set k none⟩ k=none:=by unfold blk; rw [hat]
 have hsome:∀ m b,blk ρ ⟨σ.t,σ.o.set k none⟩ m=some b→m≠k∧blk ρ σ m=some b:=fun m b e=>by
  by_cases hm:m=k
  ·subst hm; rw [hbk] at e; cases e
  ·rw [hbne m hm] at e; exact ⟨hm,e⟩
 have hobj:∀ m ob,(σ.o.set k none)[m]?=some (some ob)→m≠k∧σ.o[m]?=some (some ob):=fun m ob e=>by
  by_cases hm:m=k
  ·subst hm; rw [hat] at e; cases e
  ·rw [hset m hm] at e; exact ⟨hm,e⟩
 have hbelow:∀ m,m<base→(σ.o.set k none)[m]?=σ.o[m]?∨∀ ob,(σ.o.set k none)[m]?≠some (some ob):=fun m hm=>.inl (hset m (by omega))
 rcases R.objs k _ ho with ⟨h0,hcs⟩ | ⟨b,o,e,c,lo,hi,hnm,hc,g1,g2,g3,g4⟩
 ·refine ⟨I,Imm.le.refl _,⟨fun m ob hm=>R.objs m ob (hobj m ob hm).2,R.fresh,fun m m' b e e'=>R.sep m m' b (hsome m b e).2 (hsome m' b e').2,R.imm,fun m b e o=>R.immsep m b (hsome m b e).2 o,R.globs⟩,
   ⟨rfl,rfl,rfl,Nat.le_refl _,.refl _,.refl _,Nat.le_refl _,fun _ _ _ h=>.inl h,fun _ _ _=>rfl,fun m b hm e=>.inr ⟨m,hm,(hsome m b e).2⟩,fun b o h h'=>absurd h h',hbelow⟩,fun b o e h=>by rw [h0] at h; cases h⟩
 ·have hblk:blk ρ σ k=some b:=by simp [blk,ho,Ob.ver,hnm,Loc.block]
  have hIn:∀ j,I b j=none:=R.immsep k b hblk
  obtain ⟨I',hI'⟩:∃ I':Imm,∀ b' j,I' b' j=if b'=b then (if o≤j∧j<o+cs.length then c[j]? else none) else I b' j:=⟨_,fun _ _=>rfl⟩
  have hle:I.le I':=fun b' j x h=>by
   rw [hI']
   split
   ·rename_i e; subst e; rw [hIn] at h; cases h
   ·exact h
  refine ⟨I',hle,
   ⟨fun m ob hm=>(R.objs m ob (hobj m ob hm).2).mono hle (Names.le.refl _),R.fresh,fun m m' b e e'=>R.sep m m' b (hsome m b e).2 (hsome m' b e').2,fun b' j x hx=>?_,fun m b' e' j=>?_,R.globs_to hle fun _ _ _ _=>rfl⟩,
   ⟨rfl,rfl,rfl,Nat.le_refl _,.refl _,hle,Nat.le_refl _,fun _ _ _ h=>.inl h,fun _ _ _=>rfl,fun m b hm e=>.inr ⟨m,hm,(hsome m b e).2⟩,fun b' j h h'=>?_,hbelow⟩,fun b' o' e' h=>?_⟩
  ·rw [hI'] at hx
   split at hx
   ·rename_i e
    subst e
    split at hx
    ·rename_i hj
     obtain ⟨x',h1,h2,h3⟩:=g4 (j - o) _ (List.getElem?_eq_getElem (by omega))
     rw [show o+(j - o)=j from by omega] at h1
     rw [h1] at hx; cases hx
     exact ⟨by simp [World.cell?,hc,h1],h3⟩
    ·cases hx
   ·exact R.imm b' j x hx
  ·obtain ⟨hm,e''⟩:=hsome m b' e'
   rw [hI',if_neg (fun e=>hm (R.sep m k b' e'' (by rw [hblk,e])))]
   exact R.immsep m b' e'' j
  ·rw [hI'] at h'
   split at h'
   ·rename_i e; exact .inr ⟨k,hbase,by rw [hblk,e]⟩
   ·exact absurd h h'
  ·rw [hnm] at h; cases h
   refine ⟨fun j=>c.getD (o+j) undef,fun j u hj=>?_⟩
   obtain ⟨x',h1,h2,h3⟩:=g4 j u hj
   have hlt:=(List.getElem?_eq_some_iff.1 hj).1
   have hx:c.getD (o+j) undef=x':=by simp [Array.getD_eq_getD_getElem?,h1]
   refine ⟨?_,?_⟩
   ·rw [hI',if_pos rfl,if_pos (by omega),h1]
    simp only [hx]
   ·simp only [hx]
    exact (h2.noNames (X4 hn u (List.mem_of_getElem? hj))).mono hle (Names.le.refl _)
theorem QdF {α:Type} {l:List α}:∀ (n j:Nat),j<n * l.length→(List.replicate n l).flatten[j]?=l[j % l.length]?
 | 0,j,h=>by simp at h
 | n+1,j,h=>by
   simp only [List.replicate_succ,List.flatten_cons,List.getElem?_append]
   rw [Nat.succ_mul] at h
   split
   ·rename_i hj; rw [Nat.mod_eq_of_lt hj]
   ·rename_i hj
    rw [QdF n (j - l.length) (by omega)]
    rw [← Nat.mod_eq_sub_mod (by omega)]
theorem QbU {α:Type} {l:List α} (n:Nat):(List.replicate n l).flatten.length=n * l.length:=by simp
theorem QeD (z:Value) (n:Nat):Cells I ρ (List.replicate n (ZA z)).flatten (Builtin.zeroCells z.cells n):=by
 have hl:(ZA z).length=z.cells.size:=(Qbe (I:=I) (ρ:=ρ) z).1
 refine ⟨by rw [QbU,hl,size_zeroCells],fun j v x h1 h2=>?_⟩
 have hj:j<n * z.cells.size:=by have:=(Array.getElem?_eq_some_iff.1 h2).1; rwa [size_zeroCells] at this
 rw [QdF n j (by rw [hl]; exact hj),hl] at h1
 have hpos:0<z.cells.size:=by
  rcases Nat.eq_zero_or_pos z.cells.size with e | e
  ·rw [e] at hj; simp at hj
  ·exact e
 have hm:j % z.cells.size<z.cells.size:=Nat.mod_lt _ hpos
 refine (Qbe (I:=I) (ρ:=ρ) z).2 (j % z.cells.size) v x h1 ?_
 rw [← h2]
 simp [Builtin.zeroCells,hj,hm]
theorem Qs0 (h:ones l) (n:Nat):ones (List.replicate n l).flatten:=fun c hc=>by
 simp only [List.mem_flatten,List.mem_replicate] at hc
 obtain ⟨l',⟨_,rfl⟩,hc⟩:=hc
 exact h c hc
variable {qs:List (Nat × Nat × Arg)} {ps:Array (Nat × Operand)}
theorem Qqn (hR:Rel G I ρ σ w) (hF:FR I ρ n fr a) {len:Nat} (hu:P.underlying t=some (.slice e)) (hz:szOf P e=some sz) (hzz:zeroOf P e=some z) (hzs:z.cells.size=sz) (hle:len * sz≤16777216) 
 (hq:ps.toList.mapM (fun p=>some (p.1 * sz,sz,Qa p.2))=some qs) {K:List V→Prop} (h:XU (∀ q∈qs,Qcr (arg G fr q.2.2)=true) (Qic G fr qs (List.replicate len (ZA z)).flatten K)) :
 ∃ cs c,K cs∧Cells I ρ cs c∧cs.length=len * sz∧∀ w',(Instr.buildSlice t len (ps.map fun (i,x)=>(i,a.eval x))).run P w'=.ok (.slice (some ⟨w'.heap.size,0,none⟩) len len) { w' with heap:=w'.heap.push (.cells c e (0,0)) }:=by
 subst hzs
 obtain ⟨cs,c,h1,h2,h3,h4⟩:=Qrv hR hF (fun i=>some (i * z.cells.size,z.cells.size)) ps.toList qs hq h.1 _ _ _ (QeD z len) h.2
 have hl:(ZA z).length=z.cells.size:=(Qbe (I:=I) (ρ:=ρ) z).1
 refine ⟨cs,c,h1,h2,by rw [h3,QbU,hl],fun w'=>?_⟩
 obtain ⟨i,hi,hs⟩:=Option.map_eq_some_iff.1 hz
 have hno:¬ 16777216<len * z.cells.size:=by omega
 have hl2:(ps.map fun (i,x)=>(i,a.eval x)).toList=ps.toList.map fun p=>(p.1,a.eval p.2):=by simp
 by_cases h0:len * z.cells.size=0
 ·have:Builtin.zeroCells z.cells len=#[]:=Array.eq_empty_of_size_eq_zero (by rw [size_zeroCells,h0])
  rw [this] at h4
  have er:Array.range 0=#[]:=rfl
  simp [Instr.buildSlice,run_underlying hu,run_sizeOf hz,h0,hl2,h4,newRow,er]
 ·simp only [Builtin.zeroCells] at h4
  simp [Instr.buildSlice,run_underlying hu,run_sizeOf hz,h0,hno,QfO hzz,hl2,h4,newRow]
theorem QMf (hR:Rel G I ρ σ w) (hF:FR I ρ n fr a) {base:Nat} (hb:base≤σ.o.length) {len:Nat} (hu:P.underlying t=some (.slice e)) (hz:szOf P e=some sz) (hzz:zeroOf P e=some z) (hzs:z.cells.size=sz) (hle:len * sz≤16777216) 
 (hq:ps.toList.mapM (fun p=>some (p.1 * sz,sz,Qa p.2))=some qs) {K:V→H→Prop} (h:evW base G fr σ K (.bsl true ag e sz (ZA z) len qs)) :
 WrOk P G base I ρ σ w (do pure (.value (← Instr.buildSlice t len (ps.map fun (i,x)=>(i,a.eval x))))) K:=by
 obtain ⟨cs,c,⟨h1,hk⟩,hc,hl,hrun⟩:=Qqn hR hF hu hz hzz hzs hle hq h
 obtain ⟨hR',hS⟩:=hR.new hb (T:=e) (d:=w.drawn) (Qa7 hc h1) (Nat.le_of_eq hc.1) c.size (Nat.le_of_eq hc.1) (Nat.le_refl _) (0,0) (.inl rfl)
 refine ⟨_,.slice (some ⟨w.heap.size,0,none⟩) len len,_,_,_,_,hk,?_,hR',hS,by simp [H.push],.inl (by simp [hrun])⟩
 exact VR.sl (I:=I) _ σ.o.length σ.t 0 sz len none w.heap.size 0 c.size len (Names.add_self _ _ _ _) (Nat.le_refl _) (fun _ h=>by cases h) (fun _=>by rw [← hc.1,hl]; omega)
theorem Qih {sz:Nat}:∀ (k:Nat) (cs:List V),(Qbm sz k cs).length=k∧∀ (j:Nat) (v:V),(Qbm sz k cs)[j]?=some v→v=.agg ((cs.drop (j * sz)).take sz)
 | 0,cs=>⟨rfl,fun j v h=>by simp [Qbm] at h⟩
 | k+1,cs=>by
   obtain ⟨h1,h2⟩:=Qih (sz:=sz) k (cs.drop sz)
   refine ⟨by simp [Qbm,h1],fun j v h=>?_⟩
   cases j with
   | zero=>simp [Qbm] at h; simp [← h]
   | succ j =>
     simp [Qbm] at h
     rw [h2 j v h,List.drop_drop]
     congr 3
     rw [Nat.succ_mul]; omega
theorem QtY {v:V} (h:QiC v=true):v.cells=[v]:=by cases v <;> first | rfl | simp [QiC] at h
theorem QMg (hR:Rel G I ρ σ w) (hF:FR I ρ n fr a) {base:Nat} {len:Nat} (hu:P.underlying t=some (.slice e)) (hz:szOf P e=some sz) (h0:sz≠0) (hag:ag=false→sz=1) (hzz:zeroOf P e=some z) (hzs:z.cells.size=sz) (hle:len * sz≤16777216) 
 (hq:ps.toList.mapM (fun p=>some (p.1 * sz,sz,Qa p.2))=some qs) {K:V→H→Prop} (h:evW base G fr σ K (.bsl false ag e sz (ZA z) len qs)) :
 WrOk P G base I ρ σ w (do pure (.value (← Instr.buildSlice t len (ps.map fun (i,x)=>(i,a.eval x))))) K:=by
 obtain ⟨cs,c,⟨⟨h1,hnm⟩,hk⟩,hc,hl,hrun⟩:=Qqn hR hF hu hz hzz hzs hle hq h
 have hcs:=Qa7 hc h1
 have hone:∀ (j:Nat) (x:Value),c[j]?=some x→one x:=fun j x hx=>by
  have hj:j<cs.length:=by rw [hc.1]; exact (Array.getElem?_eq_some_iff.1 hx).1
  obtain ⟨y,a,_,b⟩:=hcs j _ (List.getElem?_eq_getElem hj)
  rw [a] at hx; cases hx; exact b
 obtain ⟨I',hI,hIle,hR',hS⟩:=hR.newimm (base:=base) (T:=e) (c:=c) hone (d:=w.drawn)
 have hget:∀ (j:Nat) (u:V),cs[j]?=some u→I' w.heap.size j=some (c.getD j undef)∧VR I' noNames u (c.getD j undef):=fun j u hj=>by
  obtain ⟨y,a,b,_⟩:=hcs j u hj
  have:c.getD j undef=y:=by simp [Array.getD_eq_getD_getElem?,a]
  rw [this]
  exact ⟨hI j y a,(b.noNames (X4 hnm u (List.mem_of_getElem? hj))).mono hIle (Names.le.refl _)⟩
 refine ⟨_,.slice (some ⟨w.heap.size,0,none⟩) len len,_,_,_,_,hk,?_,hR',hS,Nat.le_refl _,.inl (by simp [hrun])⟩
 by_cases hlen:len=0
 ·subst hlen
  have:(if ag then Qbm sz 0 cs else cs)=[]:=by
   cases ag with
   | true=>rfl
   | false=>simpa using (by simpa using hl:cs.length=0)
  rw [this]
  exact .lstN _ _ _ _ _ fun _=>rfl
 ·cases ag with
  | true =>
    obtain ⟨q1,q2⟩:=Qih (sz:=sz) len cs
    have hcell:∀ (j:Nat) (v:V),(Qbm sz len cs)[j]?=some v→v.cells.length=sz∧∀ (i:Nat) (u:V),v.cells[i]?=some u→cs[j * sz+i]?=some u:=fun j v hj=>by
     have hjl:j<len:=by rw [← q1]; exact (List.getElem?_eq_some_iff.1 hj).1
     have:(j+1) * sz≤len * sz:=Nat.mul_le_mul_right _ hjl
     rw [Nat.succ_mul] at this
     have e:=q2 j v hj
     subst e
     refine ⟨by simp [V.cells]; omega,fun i u hi=>?_⟩
     simp only [V.cells,List.getElem?_take,List.getElem?_drop] at hi
     split at hi
     ·exact hi
     ·cases hi
    have hv:=VR.lst (I:=I') ρ sz (Qbm sz len cs) true w.heap.size 0 len (fun j i=>c.getD (j * sz+i) undef) (fun e=>by rw [e] at q1; simp at q1; omega) (by omega) (fun _=>q1.symm) (fun j v hj=>(hcell j v hj).1)
     (fun j v hj i u hi=>by
      have:=(hget _ u ((hcell j v hj).2 i u hi)).1
      simpa using this) (fun j v hj i u hi=>(hget _ u ((hcell j v hj).2 i u hi)).2)
    rw [q1] at hv
    exact hv
  | false =>
    have hs1:=hag rfl
    subst hs1
    simp only [Nat.mul_one] at hl
    have hc1:∀ (j:Nat) (v:V),cs[j]?=some v→v.cells=[v]:=fun j v hj=>QtY (h1 v (List.mem_of_getElem? hj))
    have hv:=VR.lst (I:=I') ρ 1 cs true w.heap.size 0 len (fun j i=>c.getD (j+i) undef) (fun e=>by rw [e] at hl; simp at hl; omega) (by omega) (fun _=>hl.symm) (fun j v hj=>by rw [hc1 j v hj]; rfl)
     (fun j v hj i u hi=>by
      rw [hc1 j v hj] at hi
      cases i <;> simp at hi
      subst hi
      have:=(hget j v hj).1
      simpa using this) (fun j v hj i u hi=>by
      rw [hc1 j v hj] at hi
      cases i <;> simp at hi
      subst hi
      have:=(hget j v hj).2
      simpa using this)
    rw [hl] at hv
    exact hv
theorem QK5 (hR:Rel G I ρ σ w) (hF:FR I ρ n fr a) {base:Nat} (hb:base≤σ.o.length) (hT:ElemT P t e sz bytes z) {l c:Operand} {K:V→H→Prop} (h:evW base G fr σ K (.mksl e sz bytes (ZA z) (Qa l) (Qa c))) :
 WrOk P G base I ρ σ w (do pure (.value (← Instr.makeSlice t (a.eval l) (a.eval c)))) K:=by
 have hl:=QF hR hF l
 have hc:=QF hR hF c
 simp only [evW] at h
 split at h <;> (try exact h.elim)
 rename_i kl l' kc c' e1 e2
 rw [e1] at hl; rw [e2] at hc
 generalize a.eval l=lv at hl ⊢
 generalize a.eval c=cv at hc ⊢
 cases hl; cases hc
 obtain ⟨⟨g0,g1,g2,g3,g4⟩,hk⟩:=h
 obtain ⟨i,hi,rfl,rfl,hz⟩:=hT.info
 have wl:IntKind.i64.wrap l'=l':=by rw [IntKind.wrap_i64]; omega
 have wc:IntKind.i64.wrap c'=c':=by rw [IntKind.wrap_i64]; omega
 have n1:¬ c'<0:=by omega
 have hcomm:(i.bytes:Int) * c'=c' * i.bytes:=Int.mul_comm _ _
 have n2:¬ (281474976710656<(i.bytes:Int) * c'):=by omega
 have n3:¬ l'<0:=by omega
 have n4:¬ c'<l':=by omega
 have hzc:=QeD (I:=I) (ρ:=ρ) z c'.toNat
 have hzs:=hT.zsz
 have hzl:(ZA z).length=z.cells.size:=(Qbe (I:=I) (ρ:=ρ) z).1
 have hcc:=Qa7 hzc (Qs0 g4 _)
 have hlen:l'.toNat * z.cells.size≤c'.toNat * z.cells.size:=Nat.mul_le_mul_right _ (by omega)
 obtain ⟨hR',hS⟩:=hR.new hb (T:=e) (cs:=(List.replicate l'.toNat (ZA z)).flatten) (c:=Builtin.zeroCells z.cells c'.toNat) (d:=w.drawn) (fun j v hj=>by
  have hjl:=(List.getElem?_eq_some_iff.1 hj).1
  rw [QbU,hzl] at hjl
  rw [QdF _ _ (by rw [hzl]; exact hjl)] at hj
  exact hcc j v (by rw [QdF _ _ (by rw [hzl]; omega)]; exact hj))
  (by rw [QbU,hzl,size_zeroCells]; exact hlen) (Builtin.zeroCells z.cells c'.toNat).size (by rw [QbU,hzl,size_zeroCells]; exact hlen) (Nat.le_refl _) (0,0) (.inl rfl)
 refine ⟨_,.slice (some ⟨w.heap.size,0,none⟩) l'.toNat c'.toNat,_,_,_,_,hk,?_,hR',hS,by simp [H.push],.inl ?_⟩
 ·exact VR.sl (I:=I) _ σ.o.length σ.t 0 i.size l'.toNat none w.heap.size 0 _ c'.toNat (Names.add_self _ _ _ _) (by omega) (fun _ h=>by cases h) (fun _=>by rw [size_zeroCells,hzs]; omega)
 ·by_cases hn:c'.toNat * i.size=0
  ·have h0:Builtin.zeroCells z.cells c'.toNat=#[]:=Array.eq_empty_of_size_eq_zero (by rw [size_zeroCells,hzs,hn])
   have er:Array.range 0=#[]:=rfl
   simp [Instr.makeSlice,run_underlying hT.und,asInt,asIntOf,typeInfo,hi,sizeOf,wl,wc,n1,n2,n3,n4,hn,newRow,h0,er]
  ·simp [Instr.makeSlice,run_underlying hT.und,asInt,asIntOf,typeInfo,hi,sizeOf,zeroValue,hz,wl,wc,n1,n2,n3,n4,hn,newRow,Builtin.zeroCells,hzs]
theorem QkW (hR:Rel G I ρ σ w) {base v:Nat} (hbase:base≤k) (ho:σ.o[k]?=some (some (.arr v T cs))) (hl:off+l.length≤cs.length) (hc:Cells I ρ l c) (h1:∀ (j:Nat) (y:Value),c[j]?=some y→one y) {o:Nat} (hb:ρ k v=some (.at b o e)) :
 (storeCells ⟨b,o+off,none⟩ c.toList).run P w=.ok () (w.setCells b (o+off) c.toList) ∧
 Rel G I ρ ⟨σ.t,σ.o.set k (some (.arr v T (QlN cs off l)))⟩ (w.setCells b (o+off) c.toList)∧Step base I ρ σ w I ρ ⟨σ.t,σ.o.set k (some (.arr v T (QlN cs off l)))⟩ (w.setCells b (o+off) c.toList):=by
 have hcl:c.toList.length=l.length:=by rw [hc.1]; simp
 refine ⟨?_,hR.put hbase ho hl hcl (fun j u x h2 h3=>by
  have h3':c[j]?=some x:=by simpa using h3
  exact ⟨hc.2 j u x h2 h3',h1 _ _ h3'⟩) hb⟩
 rcases hR.objs k _ ho with ⟨h0,_⟩ | ⟨b',o',e',c',lo,hi,hn',hc',g1,g2,g3,g4⟩
 ·rw [hb] at h0; cases h0
 ·rw [hb] at hn'; cases hn'
  have hst:=run_storeCells_cells (P:=P) b (o+off) c.toList 0 w (fun j hj=>by
   have hjc:o+off+j<c'.size:=by omega
   simp [World.cell?,hc',hjc]) (fun j hj=>by
   have:=Qny g3 (o+off+j) (by omega)
   simp only [World.frozen?,Nat.add_zero,hc']
   simpa using this) (fun y hy=>by
   obtain ⟨j,hj,rfl⟩:=List.getElem_of_mem hy
   exact h1 j _ (by simp at hj ⊢))
  simpa using hst
theorem Qkk (cs:List V) (off:Nat):QlN cs off []=cs:=by simp [QlN]
theorem Qdv {l:List (Option Ob)} {x:Option Ob} (h:l[k]?=some x):l.set k x=l:=by
 apply List.ext_getElem?
 intro j
 rw [List.getElem?_set]
 split
 ·rename_i e; subst e
  split
  ·exact h.symm
  ·rename_i hk; rw [List.getElem?_eq_none (by omega)] at h; cases h
 ·rfl
theorem QA7 (hR:Rel G I ρ σ w) (hF:FR I ρ n fr a) {base:Nat} (hT:ElemT P t e sz bytes z) (htx:P.underlying tx=some d) (hd:d=.string∨∃ k,d=.slice k)
 {K:V→H→Prop} (h:evW base G fr σ K (.appin sz bytes str (Qa s) (Qa x))) :
 WrOk P G base I ρ σ w (do pure (.value (← Builtin.append_ #[t,tx] ty #[a.eval s,a.eval x]))) K:=by
 have hs:=QF hR hF s
 have hx:=QF hR hF x
 simp only [evW] at h
 generalize arg G fr (Qa s)=u at h hs
 generalize a.eval s=sv at hs ⊢
 generalize a.eval x=xv at hx ⊢
 split at h <;> (try exact h.elim)
 rename_i k v off s' len lim
 split at h <;> (try exact h.elim)
 rename_i v' T' cs hob
 obtain ⟨m,ln,cn,⟨⟨rfl,rfl,hbk,hlen,hlim⟩,hk⟩,hn⟩:=src_ok (P:=P) hR hT.pos hx h
 have hcn:=hn.len
 rw [Nat.add_mul] at hlen
 cases hs with
 | sl _ _ _ _ _ _ _ b o e' cap hnm g1 g2 g3 =>
   rcases hR.objs k _ hob with ⟨h0,_⟩ | ⟨b',o',e'',c',lo,hi,hn',hc',q1,q2,q3,q4⟩
   ·rw [hnm] at h0; cases h0
   rw [hnm] at hn'; cases hn'
   have hfit:len+m≤cap:=by
    cases lim with
    | some c=>have:=hlim c rfl; have:=(g2 c rfl).1; omega
    | none =>
      have g3:=g3 rfl
      have:(len+m) * s'≤cap * s':=by rw [Nat.add_mul]; omega
      exact Nat.le_of_mul_le_mul_right this (Nat.pos_of_ne_zero hT.pos)
   have hrun:=Qbh (ty:=ty) (base:=some ⟨b,o+off,none⟩) hT htx hd hn hfit
   obtain ⟨hst,hR',hS⟩:=QkW (P:=P) hR hbk hob (off:=off+len * s') (l:=ln) (by omega) hn.cells hn.ones hnm
   simp only [Addr.add_mk,Nat.add_assoc,hst,Result.andThen] at hrun
   refine ⟨_,.slice (some ⟨b,o+off,none⟩) (len+m) cap,_,_,_,_,hk,?_,hR',hS,by simp,.inl (by simp [hrun,Nat.add_assoc])⟩
   exact VR.sl (I:=I) _ k v off s' (len+m) lim b o e' cap hnm hfit g2 g3
 | slN _ _ _ _ _ ad hnm hl0 =>
   rcases hR.objs k _ hob with ⟨_,h0⟩ | ⟨b',o',e'',c,lo,hi,hn',_⟩
   ·subst h0
    simp only [List.length_nil] at hlen
    have hm:m=0:=(Nat.mul_eq_zero.1 (show m * s'=0 by omega)).resolve_right hT.pos
    subst hm
    have hln:ln=[]:=List.length_eq_zero_iff.1 (by omega)
    subst hln
    have hcn:cn=#[]:=by have:=hn.cells.1; exact Array.eq_empty_of_size_eq_zero (by simpa using this.symm)
    subst hcn
    have hrun:=Qbh (ty:=ty) (base:=ad) hT htx hd hn (Nat.le_refl 0)
    rw [Qkk,Qdv hob] at hk
    refine ⟨_,.slice ad 0 0,_,_,_,_,hk,VR.slN (I:=I) _ k v s' lim ad hnm hl0,hR,Step.refl _ _ _ _ _,Nat.le_refl _,.inl ?_⟩
    cases ad <;> simp at hrun <;> simp [hrun,storeCells]
   ·rw [hnm] at hn'; cases hn'
theorem QfI (I:Imm) (ρ:Names):VR I ρ (.tup []) undef:=.tup _ _ _ rfl fun j v x h=>by simp at h
theorem Cells.extract (h:Cells I ρ l c) (k:Nat):Cells I ρ (l.take k) (c.extract 0 k):=by
 refine ⟨by simp [h.1],fun j v x h1 h2=>?_⟩
 simp only [List.getElem?_take] at h1
 split at h1
 ·rename_i hj
  rw [Array.getElem?_extract] at h2
  split at h2
  ·exact h.2 j v x h1 (by simpa using h2)
  ·cases h2
 ·cases h1
theorem QLY (hR:Rel G I ρ σ w) (hF:FR I ρ n fr a) {base:Nat} (hu:P.underlying t=some (.slice e)) (hz:szOf P e=some sz) (h0:sz≠0) 
 {K:V→H→Prop} (h:evW base G fr σ K (.copy sz str (Qa s) (Qa x))) :
 WrOk P G base I ρ σ w (do pure (.value (← Builtin.copy_ #[t,tx] ty #[a.eval s,a.eval x]))) K:=by
 have hs:=QF hR hF s
 have hx:=QF hR hF x
 simp only [evW] at h
 generalize arg G fr (Qa s)=u at h hs
 generalize a.eval s=sv at hs ⊢
 generalize a.eval x=xv at hx ⊢
 split at h <;> (try exact h.elim)
 rename_i k v off s' len lim
 split at h <;> (try exact h.elim)
 rename_i v' T' cs hob
 obtain ⟨m,ln,cn,⟨⟨rfl,rfl,hbk,hlen⟩,hk⟩,hn⟩:=src_ok (P:=P) hR h0 hx h
 have hlo:=hn.lenOf w
 have hmin:Nat.min m len=min m len:=rfl
 have hml:min m len * s'≤m * s':=Nat.mul_le_mul_right _ (Nat.min_le_left _ _)
 have hml2:min m len * s'≤len * s':=Nat.mul_le_mul_right _ (Nat.min_le_right _ _)
 have hll:=hn.len
 have hcz:=hn.cells.1
 obtain ⟨c2,hc2,hf2,ho2⟩:∃ c2:Array Value,Cells I ρ (ln.take (min m len * s')) c2∧(Builtin.firstCells s' (min m len) xv).run P w=.ok c2 w∧∀ (j:Nat) (y:Value),c2[j]?=some y→one y :=
  ⟨_,hn.cells.extract _,hn.firstk _ (Nat.min_le_left _ _) w (Ek.refl _ w),fun j y hy=>by
   rw [Array.getElem?_extract] at hy
   split at hy
   ·exact hn.ones _ y hy
   ·cases hy⟩
 cases hs with
 | sl _ _ _ _ _ _ _ b o e' cap hnm g1 g2 g3 =>
   obtain ⟨hst,hR',hS⟩:=QkW (P:=P) hR hbk hob (off:=off) (l:=ln.take (min m len * s')) (by simp; omega) hc2 ho2 hnm
   refine ⟨_,goInt (min m len:Nat),_,_,_,_,hk,.int _ _ _,hR',hS,by simp,.inl ?_⟩
   simp [Builtin.copy_,run_underlying hu,hlo,hmin,run_sizeOf hz,hf2,hst]
 | slN _ _ _ _ _ ad hnm hl0 =>
   rcases hR.objs k _ hob with ⟨_,h0'⟩ | ⟨b',o',e'',c,lo,hi,hn',_⟩
   ·subst h0'
    have e0:min m 0=0:=Nat.min_zero _
    have hc2e:c2=#[]:=by have:=hc2.1; rw [e0] at this; exact Array.eq_empty_of_size_eq_zero (by simpa using this.symm)
    subst hc2e
    simp only [e0,Nat.zero_mul,List.take_zero,Qkk] at hk hf2
    rw [Qdv hob] at hk
    refine ⟨_,goInt 0,_,_,_,_,hk,.int _ _ _,hR,Step.refl _ _ _ _ _,Nat.le_refl _,.inl ?_⟩
    have hm0:Nat.min m 0=0:=Nat.min_zero _
    cases ad <;> simp [Builtin.copy_,run_underlying hu,hlo,hm0,run_sizeOf hz,hf2,storeCells]
   ·rw [hnm] at hn'; cases hn'
theorem clr_ok (hR:Rel G I ρ σ w) (hF:FR I ρ n fr a) {base:Nat} (hu:P.underlying t=some (.slice e)) (hz:zeroOf P e=some z) (hzs:z.cells.size=sz)
 {K:V→H→Prop} (h:evW base G fr σ K (.clr sz (ZA z) (Qa x))) :
 WrOk P G base I ρ σ w (do pure (.value (← Builtin.clear_ #[t] ty #[a.eval x]))) K:=by
 have hx:=QF hR hF x
 simp only [evW] at h
 generalize arg G fr (Qa x)=u at h hx
 generalize a.eval x=sv at hx ⊢
 split at h <;> (try exact h.elim)
 rename_i k v off s' len lim
 split at h <;> (try exact h.elim)
 rename_i v' T' cs hob
 obtain ⟨⟨rfl,rfl,hbk,hlen,h1⟩,hk⟩:=h
 have hzc:=QeD (I:=I) (ρ:=ρ) z len
 have hzl:(ZA z).length=z.cells.size:=(Qbe (I:=I) (ρ:=ρ) z).1
 have hcc:=Qa7 hzc (Qs0 h1 _)
 cases hx with
 | sl _ _ _ _ _ _ _ b o e' cap hnm g1 g2 g3 =>
   by_cases hl0:len=0
   ·subst hl0
    simp only [List.replicate_zero,List.flatten_nil,Qkk] at hk
    rw [Qdv hob] at hk
    refine ⟨_,undef,_,_,_,_,hk,QfI _ _,hR,Step.refl _ _ _ _ _,Nat.le_refl _,.inl ?_⟩
    simp [Builtin.clear_,run_underlying hu,undef]
   ·obtain ⟨hst,hR',hS⟩:=QkW (P:=P) hR hbk hob (off:=off) (l:=(List.replicate len (ZA z)).flatten) (by rw [QbU,hzl,hzs]; exact hlen) hzc (fun j y hy=>by
     have hj:j<(List.replicate len (ZA z)).flatten.length:=by rw [hzc.1]; exact (Array.getElem?_eq_some_iff.1 hy).1
     obtain ⟨y',q1,_,q2⟩:=hcc j _ (List.getElem?_eq_getElem hj)
     rw [q1] at hy; cases hy; exact q2) hnm
    refine ⟨_,undef,_,_,_,_,hk,QfI _ _,hR',hS,by simp,.inl ?_⟩
    simp [Builtin.clear_,run_underlying hu,hl0,QfO hz,hst,undef]
 | slN _ _ _ _ _ ad hnm hl0 =>
   simp only [List.replicate_zero,List.flatten_nil,Qkk] at hk
   rw [Qdv hob] at hk
   refine ⟨_,undef,_,_,_,_,hk,QfI _ _,hR,Step.refl _ _ _ _ _,Nat.le_refl _,.inl ?_⟩
   cases ad <;> simp [Builtin.clear_,run_underlying hu,undef]
theorem QmB:∀ (ns:List Int) (s:ByteArray),(ns.foldl (fun r n=>r.push (UInt8.ofNat n.toNat)) s).data.toList=s.data.toList++ns.map fun n=>UInt8.ofNat n.toNat
 | [],s=>by simp
 | n::ns,s=>by
   rw [List.foldl_cons,QmB ns]
   simp [ByteArray.push]
variable {dst kt et:TypeId}
theorem Qzh (hR:Rel G I ρ σ w) (hF:FR I ρ n fr a) {base:Nat} {src e:TypeId} (hs:P.underlying src=some (.slice e)) (he:P.underlying e=some (.int .u8)) (hd:P.underlying dst=some .string)
 {K:V→H→Prop} (h:evW base G fr σ K (.tostr (Qa x))) :
 WrOk P G base I ρ σ w (do pure (.value (← convert src dst (a.eval x)))) K:=by
 have hx:=QF hR hF x
 simp only [evW] at h
 generalize arg G fr (Qa x)=u at h hx
 generalize a.eval x=sv at hx ⊢
 obtain ⟨m,ln,cn,⟨hb,hk⟩,hn⟩:=src_ok (P:=P) hR (by omega) hx h
 have hlen:=hn.len
 have hsl:∃ ad c,sv=.slice ad m c:=by
  have:=hn.lenOf w
  unfold Qie at h
  cases hx with
  | lst=>simp [Builtin.lenOf] at this; exact ⟨_,_,by rw [this]⟩
  | lstN=>simp [Builtin.lenOf] at this; exact ⟨_,_,by rw [this]⟩
  | sl=>simp [Builtin.lenOf] at this; exact ⟨_,_,by rw [this]⟩
  | slN=>simp [Builtin.lenOf] at this; exact ⟨_,_,by rw [this]⟩
  | _=>exact h.elim
 obtain ⟨ad,c,rfl⟩:=hsl
 have hcn:∃ ns:List Int,cn=(ns.map (Value.int .u8)).toArray∧ln.map QgT=ns.map fun n=>UInt8.ofNat n.toNat:=by
  have hc:=hn.cells
  have:∀ (l:List V) (c:List Value),l.length=c.length→(∀ (j:Nat) (v:V) (x:Value),l[j]?=some v→c[j]?=some x→VR I ρ v x)→(∀ v∈l,isByte v=true)→∃ ns:List Int,c=ns.map (Value.int .u8)∧l.map QgT=ns.map fun n=>UInt8.ofNat n.toNat:=by
   intro l
   induction l with
   | nil=>intro c hl _ _; cases c with | nil=>exact ⟨[],rfl,rfl⟩ | cons=>simp at hl
   | cons v l ih =>
     intro c hl hv hb
     cases c with
     | nil=>simp at hl
     | cons y c =>
       obtain ⟨ns,h1,h2⟩:=ih c (by simpa using hl) (fun j v x a b=>hv (j+1) v x (by simpa using a) (by simpa using b)) (fun v hv=>hb v (List.mem_cons_of_mem _ hv))
       have h0:=hv 0 v y rfl rfl
       have hbv:=hb v (List.mem_cons_self ..)
       cases h0 with
       | int _ k n =>
         have:k=.u8:=by unfold isByte at hbv; split at hbv <;> simp_all
         subst this
         exact ⟨n::ns,by rw [h1]; rfl,by simp only [List.map_cons,h2]; rfl⟩
       | _=>simp [isByte] at hbv
  obtain ⟨ns,h1,h2⟩:=this ln cn.toList (by simpa using hc.1) (fun j v x a b=>hc.2 j v x a (by simpa using b)) hb
  exact ⟨ns,by rw [← h1],h2⟩
 obtain ⟨ns,rfl,hns⟩:=hcn
 have hf:=hn.first w (Ek.refl _ w)
 have hstr:∀ s:ByteArray,s.data.toList=ln.map QgT→VR I ρ (.str (ln.map QgT)) (.string s):=fun s hs=>by
  have e:s=⟨(ln.map QgT).toArray⟩:=by cases s; simp at hs; simp [← hs]
  rw [e]
  exact .str _ _
 have hrc:=run_convert_bytes_string (P:=P) w src dst e ad m c hs he hd
 cases ad with
 | none =>
   simp only [Builtin.firstCells,Sem.run_pure] at hf
   have:ns=[]:=by
    injection hf with hf
    cases ns with
    | nil=>rfl
    | cons=>simp at hf
   subst this
   refine ⟨_,.string .empty,_,_,_,_,hk,hstr _ (by rw [hns]; rfl),hR,Step.refl _ _ _ _ _,Nat.le_refl _,.inl ?_⟩
   simp [hrc,Conv.bytesToString]
 | some ad =>
   simp only [Builtin.firstCells,Nat.mul_one] at hf
   have:=run_bytesToString (P:=P) w ad m c ns hf
   refine ⟨_,.string (ns.foldl (fun r n=>r.push (UInt8.ofNat n.toNat)) ByteArray.empty),_,_,_,_,hk,hstr _ (by rw [QmB,hns]; rfl),hR,Step.refl _ _ _ _ _,Nat.le_refl _,.inl ?_⟩
   simp [hrc,this]
theorem QtR (hR:Rel G I ρ σ w) (hF:FR I ρ n fr a) {base:Nat} (hb:base≤σ.o.length) {src e:TypeId} {u:TypeDesc} (hs:P.underlying src=some u) (hd:P.underlying dst=some (.slice e)) (he:P.underlying e=some (.int .u8))
 {K:V→H→Prop} (h:evW base G fr σ K (.tobytes e (Qa x))) :
 WrOk P G base I ρ σ w (do pure (.value (← convert src dst (a.eval x)))) K:=by
 have hx:=QF hR hF x
 simp only [evW] at h
 generalize arg G fr (Qa x)=u at h hx
 generalize a.eval x=sv at hx ⊢
 split at h <;> (try exact h.elim)
 rename_i s
 cases hx
 have hge:=grownCap_ge w s.length 0 e
 have hsz:(Lib.bytesCells w e ⟨s.toArray⟩).size=grownCap w s.length 0 e:=by simp [Lib.bytesCells,ByteArray.size]; omega
 have hw:Lib.bytesWorld w e ⟨s.toArray⟩={ w with heap:=w.heap.push (.cells (Lib.bytesCells w e ⟨s.toArray⟩) e ((Lib.bytesCells w e ⟨s.toArray⟩).size,(Lib.bytesCells w e ⟨s.toArray⟩).size+1)),drawn:=w.drawn+1 }:=by
  have hh:(Lib.bytesWorld w e ⟨s.toArray⟩).heap=w.heap.push (.cells (Lib.bytesCells w e ⟨s.toArray⟩) e ((Lib.bytesCells w e ⟨s.toArray⟩).size,(Lib.bytesCells w e ⟨s.toArray⟩).size+1)):=by
   apply Array.ext_getElem?
   intro i
   rw [Array.getElem?_push]
   rcases Nat.lt_trichotomy i w.heap.size with h | h | h
   ·rw [if_neg (by omega),Lib.bytesWorld_at_old w e _ i h]
   ·subst h; rw [if_pos rfl,Lib.bytesWorld_at_new]
   ·rw [if_neg (by omega),Array.getElem?_eq_none (by rw [Lib.bytesWorld_size]; omega),Array.getElem?_eq_none (by omega)]
  rw [← hh]
  rfl
 obtain ⟨hR',hS⟩:=hR.new hb (T:=e) (cs:=s.map QMe) (c:=Lib.bytesCells w e ⟨s.toArray⟩) (d:=w.drawn+1) (fun j v hj=>by
  simp only [List.getElem?_map] at hj
  cases hsj:s[j]? with
  | none=>simp [hsj] at hj
  | some b =>
    simp only [hsj,Option.map_some,Option.some.injEq] at hj
    subst hj
    obtain ⟨hlt,hsb⟩:=List.getElem?_eq_some_iff.1 hsj
    refine ⟨.int .u8 b.toNat,?_,.int _ _ _,rfl⟩
    simp [Lib.bytesCells,Array.getElem?_append,hlt,hsb]) (by rw [hsz]; simpa using hge) (Lib.bytesCells w e ⟨s.toArray⟩).size (by rw [hsz]; simpa using hge) (Nat.le_refl _) ((Lib.bytesCells w e ⟨s.toArray⟩).size,(Lib.bytesCells w e ⟨s.toArray⟩).size+1) (.inr (Nat.le_refl _))
 rw [← hw] at hR' hS
 refine ⟨_,.slice (some ⟨w.heap.size,0,none⟩) s.length (grownCap w s.length 0 e),_,_,_,_,h,?_,hR',hS,by simp [H.push],.inl ?_⟩
 ·exact VR.sl (I:=I) _ σ.o.length σ.t 0 1 s.length none w.heap.size 0 _ _ (Names.add_self _ _ _ _) hge (fun _ h=>by cases h) (fun _=>by rw [hsz]; omega)
 ·have:=Lib.run_convert_string_bytes (P:=P) w src dst e ⟨s.toArray⟩ hs hd he
  simp [this,ByteArray.size]
theorem QLa (hR:Rel G I ρ σ w) (hF:FR I ρ n fr a) {base:Nat} {src e:TypeId} (hs:P.underlying src=some (.slice e)) (he:P.underlying e=some (.int .u8))
 {K:V→H→Prop} (h:evW base G fr σ K (.mark (Qa x))) :
 WrOk P G base I ρ σ w (do pure (.value (← convert src src (a.eval x)))) K:=by
 have hx:=QF hR hF x
 simp only [evW] at h
 generalize arg G fr (Qa x)=u at h hx
 generalize a.eval x=sv at hx ⊢
 split at h <;> (try exact h.elim)
 rename_i k v off sz len lim
 split at h <;> (try exact h.elim)
 rename_i v' T cs ho
 obtain ⟨⟨rfl,hb,hpos⟩,hk⟩:=h
 rcases hR.objs k _ ho with ⟨_,hcs⟩ | ⟨b,o,e',c,lo,hi,hn,hc,g1,g2,g3,g4⟩
 ·subst hcs; simp at hpos
 ·cases hx with
  | slN _ _ _ _ _ _ hnm _=>rw [hn] at hnm; cases hnm
  | sl _ _ _ _ _ _ _ b' o' e'' cap hnm q1 q2 q3 =>
    rw [hn] at hnm; cases hnm
    have hblk:blk ρ σ k=some b:=by simp [blk,ho,Ob.ver,hn,Loc.block]
    have hfr:∃ lo' hi',(w.freeze ⟨b,c.size,none⟩ 1).heap[b]?=some (.cells c T (lo',hi'))∧Clr e' lo' hi':=by
     unfold World.freeze
     rw [if_neg (by decide)]
     by_cases hl:lo=hi
     ·refine ⟨c.size,c.size+1,?_,.inr g2⟩
      simp [Array.getElem?_modify,hc,hl]
     ·refine ⟨min lo c.size,max hi (c.size+1),?_,.inr ?_⟩
      ·simp [Array.getElem?_modify,hc,hl]
      ·rcases g3 with g3 | g3
       ·exact absurd g3 hl
       ·exact Nat.le_min.2 ⟨g3,g2⟩
    obtain ⟨lo',hi',hf1,hf2⟩:=hfr
    have hsz:(w.freeze ⟨b,c.size,none⟩ 1).heap.size=w.heap.size:=by
     unfold World.freeze
     rw [if_neg (by decide)]
     simp
    have hoth:∀ b2,b2≠b→(w.freeze ⟨b,c.size,none⟩ 1).heap[b2]?=w.heap[b2]?:=fun b2 hne=>by
     unfold World.freeze
     rw [if_neg (by decide)]
     simp [Array.getElem?_modify,Ne.symm hne]
    have hos:(w.freeze ⟨b,c.size,none⟩ 1).os=w.os∧(w.freeze ⟨b,c.size,none⟩ 1).tape=w.tape∧(w.freeze ⟨b,c.size,none⟩ 1).output=w.output:=by
     unfold World.freeze
     rw [if_neg (by decide)]
     exact ⟨rfl,rfl,rfl⟩
    obtain ⟨hR',hS⟩:=hR.upd hb (ob:=.arr v T cs) (σ':=σ) (ρ':=ρ) (w':=w.freeze ⟨b,c.size,none⟩ 1) ho (fun _ _=>rfl) (Nat.le_refl _) (Names.le.refl _) (fun _ _ _ h=>.inl h) hos.1 hos.2.1 hos.2.2 (by omega)
     (fun b2 _ hne=>hoth b2 fun e=>hne (e▸hblk)) (.inr ⟨b,o,e',c,lo',hi',hn,hf1,g1,g2,hf2,g4⟩) (fun b2 hb2=>.inr (by simp only [Ob.ver,hn,Option.bind_some,Loc.block,Option.some.injEq] at hb2; rw [hblk,hb2]))
    refine ⟨_,.slice (some ⟨b,o+off,none⟩) len cap,_,_,_,_,hk,VR.sl (I:=I) ρ k v off sz len lim b o e' cap hn q1 q2 q3,hR',hS,Nat.le_refl _,.inl ?_⟩
    have hsh:w.shape? b=some (T,c.size):=by unfold World.shape?; rw [hc]
    simp [convert,run_underlying hs,run_underlying he,markStringish,hsh]
variable {es:Array MapEntry}
theorem Zr {w:World} (hb:w.heap[r]?=some (.map es clock)):(getObj r).run P w=.ok (.map es clock) w:=by simp [getObj,Sem.run,hb]
theorem Qa6 {w:World} (o:Obj) (hb:w.heap[r]?=some (.map es clock)):(setObj r o).run P w=.ok () { w with heap:=w.heap.setIfInBounds r o }:=by simp [setObj,Sem.run,hb]
theorem heap_put {w:World} {o o':Obj} (hb:w.heap[r]?=some o):(w.heap.setIfInBounds r o')[r]?=some o'∧∀ r',r'≠r→(w.heap.setIfInBounds r o')[r']?=w.heap[r']?:=by
 have hlt:r<w.heap.size:=(Array.getElem?_eq_some_iff.1 hb).1
 exact ⟨by simp [hlt],fun r' hne=>by simp [Ne.symm hne]⟩
theorem Rel.setmap (R:Rel G I ρ σ w) {base v:Nat} {es es':List (V × V)} (hbase:base≤k) (ho:σ.o[k]?=some (some (.map v es))) {o:Nat} (hb:ρ k v=some (.at b o e)) {c c':Array MapEntry} {d:Nat} (hc:w.heap[b]?=some (.map c clock))
 (h1:es'.length=c'.size) (h2:∀ (i:Nat) (x:MapEntry),c'[i]?=some x→x.born=i)
 (h4:∀ (j:Nat) (p:V × V) (x:MapEntry),es'[j]?=some p→c'[j]?=some x→VR I noNames p.1 x.key∧VR I ρ p.2 x.val) :
 Rel G I ρ ⟨σ.t,σ.o.set k (some (.map v es'))⟩ { w with heap:=w.heap.setIfInBounds b (.map c' c'.size),drawn:=d }∧Step base I ρ σ w I ρ ⟨σ.t,σ.o.set k (some (.map v es'))⟩ { w with heap:=w.heap.setIfInBounds b (.map c' c'.size),drawn:=d }:=by
 have hk:k<σ.o.length:=(List.getElem?_eq_some_iff.1 ho).1
 have hblk:blk ρ σ k=some b:=by simp [blk,ho,Ob.ver,hb,Loc.block]
 have hs:=heap_put (o':=.map c' c'.size) hc
 refine R.upd hbase (ob:=.map v es') (by simp [hk]) (fun m hm=>by simp [List.getElem?_set_ne (Ne.symm hm)]) (Nat.le_refl _) (Names.le.refl _) (fun m v l h=>.inl h) rfl rfl rfl (by simp) (fun b' hb' hne=>hs.2 b' fun e=>hne (e▸hblk)) ?_ (fun b' hb'=>?_)
 ·exact ⟨b,o,e,c',hb,hs.1,h1,h2,h4⟩
 ·right
  simp only [Ob.ver,hb,Option.bind_some,Loc.block,Option.some.injEq] at hb'
  rw [hblk,hb']
theorem QMq {kd:Kd} {a b:V} (h:QnM kd a b=some true):a=b:=by
 unfold QnM at h
 split at h <;> (try cases h)
 ·split at h
  ·rename_i hk; subst hk; simp at h; rw [h]
  ·cases h
 ·simp at h; rw [h]
 ·simp at h; rw [h]
theorem Qyv:∀ {ks:List Kd} {l m:List V},Qbo ks l m=some true→l=m
 | [],[],[],_=>rfl
 | [],[],_::_,h=>by simp [Qbo] at h
 | [],_::_,_,h=>by simp [Qbo] at h
 | _::_,[],_,h=>by simp [Qbo] at h
 | _::_,_::_,[],h=>by simp [Qbo] at h
 | k::ks,a::l,b::m,h=>by
   simp only [Qbo] at h
   split at h
   ·rename_i x y hx hy
    simp only [Option.some.injEq,Bool.and_eq_true] at h
    obtain ⟨rfl,rfl⟩:=h
    rw [QMq hx,Qyv hy]
   ·cases h
theorem Qtf {ks:List Kd} {k k':V} (h:Qdc ks k k'=true) (h1:k.isAgg=ag) (h2:k'.isAgg=ag):k=k':=by
 have hc:k.cells=k'.cells:=Qyv (by simpa [Qdc] using h)
 cases ag with
 | true =>
   cases k <;> simp [V.isAgg] at h1
   cases k' <;> simp [V.isAgg] at h2
   simp [V.cells] at hc
   rw [hc]
 | false =>
   have e1:k.cells=[k]:=by cases k <;> first | rfl | simp [V.isAgg] at h1
   have e2:k'.cells=[k']:=by cases k' <;> first | rfl | simp [V.isAgg] at h2
   rw [e1,e2] at hc
   simpa using hc
theorem Qo9 {ks:List Kd} {k x:V}:∀ {es:List (V × V)},Qf2 ks k es=none→Qna ks k x es=es++[(k,x)]
 | [],_=>rfl
 | (k',v)::es,h=>by
   simp only [Qf2] at h
   split at h
   ·cases h
   ·rename_i hk
    have hn:Qf2 ks k es=none:=by simpa using h
    simp only [Qna,hk,Bool.false_eq_true,if_false,Qo9 hn,List.cons_append]
theorem Qlb {ks:List Kd} {k x:V}:∀ {es:List (V × V)} {j:Nat},Qf2 ks k es=some j→Qna ks k x es=es.modify j (fun p=>(p.1,x))∧∃ p,es[j]?=some p∧Qdc ks k p.1=true
 | [],j,h=>by simp [Qf2] at h
 | (k',v)::es,j,h=>by
   simp only [Qf2] at h
   split at h
   ·rename_i hk
    cases h
    exact ⟨by simp [Qna,hk],(k',v),rfl,hk⟩
   ·rename_i hk
    obtain ⟨j',hj',rfl⟩:=Option.map_eq_some_iff.1 h
    obtain ⟨h1,h2⟩:=Qlb (x:=x) hj'
    exact ⟨by simp [Qna,hk,h1],by simpa using h2⟩
theorem Qs9 (hR:Rel G I ρ σ w) (hF:FR I ρ n fr a) {base:Nat} {t:TypeId} {ks:List Kd} (hu:P.underlying t=some (.map kt et)) (hT:QMD P kt ag ks) {k:Operand} {K:V→H→Prop}
 (h:evW base G fr σ K (.mapup ag ks (Qa m) (Qa k) (Qa x))):WrOk P G base I ρ σ w (do Instr.mapUpdate t (a.eval m) (a.eval k) (a.eval x); pure .skip) K:=by
 have hm:=QF hR hF m
 have hk:=QF hR hF k
 have hx:=QF hR hF x
 simp only [evW] at h
 generalize arg G fr (Qa m)=u at h hm
 generalize arg G fr (Qa k)=kv at h hk
 generalize arg G fr (Qa x)=xv at h hx
 generalize a.eval m=mv at hm ⊢
 generalize a.eval k=kx at hk ⊢
 generalize a.eval x=xx at hx ⊢
 split at h <;> (try exact h.elim)
 rename_i nm v
 split at h <;> (try exact h.elim)
 rename_i v' es ho
 obtain ⟨⟨rfl,hbk,hok,hnl⟩,hK⟩:=h
 cases hm with
 | mp _ _ _ b o e hn =>
   obtain ⟨b',o',e'',c,hn',hc,hl,g1,hv⟩:=hR.objs nm _ ho
   rw [hn] at hn'; cases hn'
   have hf:=QfV hT hk es c.toList (by simpa using hl) (fun j p r h1 h2=>(hv j p r h1 (by simpa using h2)).1) hok w
   have hck:=Qcl hT hk hok.1 false w
   cases hmi:Qf2 ks kv es with
   | none =>
     simp only [hmi,Option.bind_none] at hf
     rw [Qo9 hmi] at hK
     have hcs:(c.push { key:=kx,val:=xx,born:=c.size }).size=c.size+1:=by simp
     obtain ⟨hR',hS⟩:=hR.setmap hbk ho hn hc (es':=es++[(kv,xv)]) (c':=c.push { key:=kx,val:=xx,born:=c.size }) (d:=w.drawn) (by simp [hl]) (fun i y hy=>by
      rw [Array.getElem?_push] at hy
      split at hy
      ·cases hy; simp; omega
      ·exact g1 i y hy) (fun j p y hp hy=>by
      rw [List.getElem?_append] at hp
      rw [Array.getElem?_push] at hy
      split at hp
      ·rw [if_neg (by omega)] at hy
       exact hv j p y hp hy
      ·rename_i hj
       by_cases hjj:j=c.size
       ·rw [if_pos hjj] at hy
        cases hy
        rw [show j - es.length=0 from by omega] at hp
        simp at hp
        subst hp
        exact ⟨hk.noNames hnl,hx⟩
       ·rw [if_neg hjj] at hy
        have:=(Array.getElem?_eq_some_iff.1 hy).1
        omega)
     rw [hcs] at hR' hS
     refine ⟨_,undef,_,_,_,_,hK,QfI _ _,hR',hS,by simp,.inr ⟨?_,rfl⟩⟩
     simp [Instr.mapUpdate,run_underlying hu,Zr hc,hck,hf,Qa6 _ hc]
   | some j =>
     have hj:=Qne hmi
     have hjc:j<c.size:=by omega
     simp only [hmi,Option.bind_some,Array.getElem?_toList,Array.getElem?_eq_getElem hjc,Option.map_some] at hf
     obtain ⟨hmp,p,hp,hpk⟩:=Qlb (x:=xv) hmi
     rw [hmp] at hK
     have hkp:kv=p.1:=Qtf hpk hok.1.1 (hok.2 p (List.mem_of_getElem? hp)).1
     have hcj:=Array.getElem?_eq_getElem hjc
     have key:∀ (kk:Value) (d:Nat),VR I noNames p.1 kk→Rel G I ρ ⟨σ.t,σ.o.set nm (some (.map v (es.modify j fun p=>(p.1,xv))))⟩ { w with heap:=w.heap.setIfInBounds b (.map (c.modify j fun e=>{ e with key:=kk,val:=xx }) c.size),drawn:=d } ∧
      Step base I ρ σ w I ρ ⟨σ.t,σ.o.set nm (some (.map v (es.modify j fun p=>(p.1,xv))))⟩ { w with heap:=w.heap.setIfInBounds b (.map (c.modify j fun e=>{ e with key:=kk,val:=xx }) c.size),drawn:=d }:=by
      intro kk d hkk
      have hmod:∀ (i:Nat) (y:MapEntry),(c.modify j fun e=>{ e with key:=kk,val:=xx })[i]?=some y→∃ y0,c[i]?=some y0∧y=if j=i then { y0 with key:=kk,val:=xx } else y0:=fun i y hy=>by
       rw [Array.getElem?_modify] at hy
       split at hy
       ·rename_i hji
        subst hji
        rw [hcj] at hy
        simp at hy
        exact ⟨_,hcj,by simp [← hy]⟩
       ·rename_i hji
        exact ⟨y,hy,by rw [if_neg hji]⟩
      have hms:(c.modify j fun e=>{ e with key:=kk,val:=xx }).size=c.size:=by simp
      have key:=hR.setmap (d:=d) hbk ho hn hc (c':=c.modify j fun e=>{ e with key:=kk,val:=xx }) (es':=es.modify j fun p=>(p.1,xv)) (by simp [hl]) (fun i y hy=>?_) (fun i q y hq hy=>?_)
      ·rw [hms] at key; exact key
      ·obtain ⟨y0,h1,rfl⟩:=hmod i y hy
       have:=g1 i y0 h1
       split <;> exact this
      ·obtain ⟨y0,h1,rfl⟩:=hmod i y hy
       rw [List.getElem?_modify] at hq
       by_cases hji:j=i
       ·subst hji
        rw [hp] at hq
        simp at hq
        subst hq
        rw [if_pos rfl]
        exact ⟨hkk,hx⟩
       ·rw [if_neg hji]
        have:es[i]?=some q:=by
         cases hes:es[i]? with
         | none=>simp [hes] at hq
         | some q0=>simp [hes,hji] at hq; rw [hq]
        exact hv i q y0 this h1
     have kold:VR I noNames p.1 c[j].key:=(hv j p c[j] hp hcj).1
     have knew:VR I noNames p.1 kx:=by rw [← hkp]; exact hk.noNames hnl
     by_cases hsb:Instr.sameBits 10000 c[j].key kx=true
     ·obtain ⟨hR',hS⟩:=key kx w.drawn knew
      refine ⟨_,undef,_,_,_,_,hK,QfI _ _,hR',hS,by simp,.inr ⟨?_,rfl⟩⟩
      simp [Instr.mapUpdate,run_underlying hu,Zr hc,hck,hf,hcj,Instr.keyThatStays,hsb,Qa6 _ hc]
     ·have hdr:∀ o:Obj,(setObj b o).run P w.drew=.ok () { w with heap:=w.heap.setIfInBounds b o,drawn:=w.drawn+1 }:=fun o=>by
       have:=Qa6 (P:=P) (w:=w.drew) o hc
       rw [this]
       rfl
      by_cases hq : Question.cut (.extern "map.whichKeyStays" 2) (w.tape w.drawn (.extern "map.whichKeyStays" 2)) = 0
      ·obtain ⟨hR',hS⟩:=key kx (w.drawn+1) knew
       refine ⟨_,undef,_,_,_,_,hK,QfI _ _,hR',hS,by simp,.inr ⟨?_,rfl⟩⟩
       simp [Instr.mapUpdate,run_underlying hu,Zr hc,hck,hf,hcj,Instr.keyThatStays,hsb,hq,hdr,Question.forced]
      ·obtain ⟨hR',hS⟩:=key c[j].key (w.drawn+1) kold
       refine ⟨_,undef,_,_,_,_,hK,QfI _ _,hR',hS,by simp,.inr ⟨?_,rfl⟩⟩
       simp [Instr.mapUpdate,run_underlying hu,Zr hc,hck,hf,hcj,Instr.keyThatStays,hsb,hq,hdr,Question.forced]
 | _=>skip
theorem QlJ {v:V} {x:Value} (h:VR I ρ u x) (k:VR I ρ v y):VR I ρ (.tup [u,v]) (.tuple #[x,y]):=by
 refine .tup _ _ _ rfl fun j v' x' h1 h2=>?_
 match j with
 | 0=>simp at h1 h2; subst h1; subst h2; exact h
 | 1=>simp at h1 h2; subst h1; subst h2; exact k
 | j+2=>simp at h1
theorem QyN {v t:V} {x:Value} (h:VR I ρ u x) (k:VR I ρ v y) (l:VR I ρ t z):VR I ρ (.tup [u,v,t]) (.tuple #[x,y,z]):=by
 refine .tup _ _ _ rfl fun j v' x' h1 h2=>?_
 match j with
 | 0=>simp at h1 h2; subst h1; subst h2; exact h
 | 1=>simp at h1 h2; subst h1; subst h2; exact k
 | 2=>simp at h1 h2; subst h1; subst h2; exact l
 | j+3=>simp at h1
theorem QK7 (hR:Rel G I ρ σ w) (hF:FR I ρ n fr a) {base:Nat} {t:TypeId} {ks:List Kd} (hu:P.underlying t=some (.map kt et)) (hT:QMD P kt ag ks) (hz:zeroOf P et=some z) {k:Operand} {K:V→H→Prop}
 (h:evW base G fr σ K (.ment ag ks (ofV z) (Qa m) (Qa k))):WrOk P G base I ρ σ w (do pure (.value (← Instr.mapEntry t (a.eval m) (a.eval k)))) K:=by
 have hm:=QF hR hF m
 have hk:=QF hR hF k
 simp only [evW] at h
 generalize arg G fr (Qa m)=u at h hm
 generalize arg G fr (Qa k)=kv at h hk
 generalize a.eval m=mv at hm ⊢
 generalize a.eval k=kx at hk ⊢
 split at h <;> (try exact h.elim)
 rename_i nm v
 split at h <;> (try exact h.elim)
 rename_i v' es ho
 obtain ⟨⟨rfl,hbk,hok,hnl⟩,hK⟩:=h
 cases hm with
 | mp _ _ _ b o e hn =>
   obtain ⟨b',o',e'',c,hn',hc,hl,g1,hv⟩:=hR.objs nm _ ho
   rw [hn] at hn'; cases hn'
   have hf:=QfV hT hk es c.toList (by simpa using hl) (fun j p r h1 h2=>(hv j p r h1 (by simpa using h2)).1) hok w
   have hck:=Qcl hT hk hok.1 false w
   rw [Qld] at hK
   unfold Qpe at hK
   cases hmi:Qf2 ks kv es with
   | none =>
     simp only [hmi,Option.bind_none] at hf
     simp only [hmi,Option.bind_none,Option.getD_none,Option.isSome_none,Bool.false_eq_true,if_false] at hK
     have hcs:(c.push { key:=kx,val:=z,born:=c.size }).size=c.size+1:=by simp
     obtain ⟨hR',hS⟩:=hR.setmap hbk ho hn hc (es':=es++[(kv,ofV z)]) (c':=c.push { key:=kx,val:=z,born:=c.size }) (d:=w.drawn) (by simp [hl]) (fun i y hy=>by
      rw [Array.getElem?_push] at hy
      split at hy
      ·cases hy; simp; omega
      ·exact g1 i y hy) (fun j p y hp hy=>by
      rw [List.getElem?_append] at hp
      rw [Array.getElem?_push] at hy
      split at hp
      ·rw [if_neg (by omega)] at hy
       exact hv j p y hp hy
      ·rename_i hj
       by_cases hjj:j=c.size
       ·rw [if_pos hjj] at hy
        cases hy
        rw [show j - es.length=0 from by omega] at hp
        simp at hp
        subst hp
        exact ⟨hk.noNames hnl,QqH _ _ _⟩
       ·rw [if_neg hjj] at hy
        have:=(Array.getElem?_eq_some_iff.1 hy).1
        omega)
     rw [hcs] at hR' hS
     rw [hl] at hK
     refine ⟨_,.tuple #[z,goInt c.size],_,_,_,_,hK,QlJ (QqH _ _ _) (.int _ _ _),hR',hS,by simp,.inl ?_⟩
     simp [Instr.mapEntry,run_underlying hu,Zr hc,hck,hf,Qa6 _ hc,QfO hz]
   | some j =>
     have hj:=Qne hmi
     have hjc:j<c.size:=by omega
     simp only [hmi,Option.bind_some,Array.getElem?_toList,Array.getElem?_eq_getElem hjc,Option.map_some] at hf
     obtain ⟨hmp,p,hp,hpk⟩:=Qlb (x:=.any) hmi
     have hkp:kv=p.1:=Qtf hpk hok.1.1 (hok.2 p (List.mem_of_getElem? hp)).1
     have hcj:=Array.getElem?_eq_getElem hjc
     simp only [hmi,Option.bind_some,hp,Option.map_some,Option.getD_some,Option.isSome_some,if_true] at hK
     have hborn:=g1 j c[j] hcj
     have hval:=(hv j p c[j] hp hcj).2
     have hset:σ.o.set nm (some (.map v es))=σ.o:=Qdv ho
     rw [hset] at hK
     have key:∀ (kk:Value) (d:Nat),VR I noNames p.1 kk→Rel G I ρ σ { w with heap:=w.heap.setIfInBounds b (.map (c.modify j fun e=>{ e with key:=kk }) c.size),drawn:=d } ∧
      Step base I ρ σ w I ρ σ { w with heap:=w.heap.setIfInBounds b (.map (c.modify j fun e=>{ e with key:=kk }) c.size),drawn:=d }:=by
      intro kk d hkk
      have hmod:∀ (i:Nat) (y:MapEntry),(c.modify j fun e=>{ e with key:=kk })[i]?=some y→∃ y0,c[i]?=some y0∧y=if j=i then { y0 with key:=kk } else y0:=fun i y hy=>by
       rw [Array.getElem?_modify] at hy
       split at hy
       ·rename_i hji
        subst hji
        rw [hcj] at hy
        simp at hy
        exact ⟨_,hcj,by simp [← hy]⟩
       ·rename_i hji
        exact ⟨y,hy,by rw [if_neg hji]⟩
      have hms:(c.modify j fun e=>{ e with key:=kk }).size=c.size:=by simp
      have key:=hR.setmap (d:=d) hbk ho hn hc (c':=c.modify j fun e=>{ e with key:=kk }) (es':=es) (by simp [hl]) (fun i y hy=>?_) (fun i q y hq hy=>?_)
      ·rw [hms,hset] at key; exact key
      ·obtain ⟨y0,h1,rfl⟩:=hmod i y hy
       have:=g1 i y0 h1
       split <;> exact this
      ·obtain ⟨y0,h1,rfl⟩:=hmod i y hy
       have hq0:=hv i q y0 hq h1
       split
       ·rename_i hji
        subst hji
        rw [hp] at hq; cases hq
        exact ⟨hkk,hq0.2⟩
       ·exact hq0
     have kold:VR I noNames p.1 c[j].key:=(hv j p c[j] hp hcj).1
     have knew:VR I noNames p.1 kx:=by rw [← hkp]; exact hk.noNames hnl
     by_cases hsb:Instr.sameBits 10000 c[j].key kx=true
     ·obtain ⟨hR',hS⟩:=key kx w.drawn knew
      refine ⟨_,.tuple #[c[j].val,goInt j],_,_,_,_,hK,QlJ hval (.int _ _ _),hR',hS,Nat.le_refl _,.inl ?_⟩
      simp [Instr.mapEntry,run_underlying hu,Zr hc,hck,hf,hcj,Instr.keyThatStays,hsb,Qa6 _ hc,hborn]
     ·have hdr:∀ o:Obj,(setObj b o).run P w.drew=.ok () { w with heap:=w.heap.setIfInBounds b o,drawn:=w.drawn+1 }:=fun o=>by
       have:=Qa6 (P:=P) (w:=w.drew) o hc
       rw [this]
       rfl
      by_cases hq : Question.cut (.extern "map.whichKeyStays" 2) (w.tape w.drawn (.extern "map.whichKeyStays" 2)) = 0
      ·obtain ⟨hR',hS⟩:=key kx (w.drawn+1) knew
       refine ⟨_,.tuple #[c[j].val,goInt j],_,_,_,_,hK,QlJ hval (.int _ _ _),hR',hS,Nat.le_refl _,.inl ?_⟩
       simp [Instr.mapEntry,run_underlying hu,Zr hc,hck,hf,hcj,Instr.keyThatStays,hsb,hq,hdr,Question.forced,hborn]
      ·obtain ⟨hR',hS⟩:=key c[j].key (w.drawn+1) kold
       refine ⟨_,.tuple #[c[j].val,goInt j],_,_,_,_,hK,QlJ hval (.int _ _ _),hR',hS,Nat.le_refl _,.inl ?_⟩
       simp [Instr.mapEntry,run_underlying hu,Zr hc,hck,hf,hcj,Instr.keyThatStays,hsb,hq,hdr,Question.forced,hborn]
 | _=>skip
theorem mst_ok (hR:Rel G I ρ σ w) (hF:FR I ρ n fr a) {base:Nat} {t:TypeId} {K:V→H→Prop}
 (h:evW base G fr σ K (.mst (Qa m) (Qa s) (Qa x))):WrOk P G base I ρ σ w (do Instr.entryStore t (a.eval m) (a.eval s) (a.eval x); pure .skip) K:=by
 have hm:=QF hR hF m
 have hs:=QF hR hF s
 have hx:=QF hR hF x
 simp only [evW] at h
 generalize arg G fr (Qa m)=u at h hm
 generalize arg G fr (Qa s)=sv at h hs
 generalize arg G fr (Qa x)=xv at h hx
 generalize a.eval m=mv at hm ⊢
 generalize a.eval s=sx at hs ⊢
 generalize a.eval x=xx at hx ⊢
 split at h <;> (try exact h.elim)
 rename_i nm v kd i
 split at h <;> (try exact h.elim)
 rename_i v' es ho
 obtain ⟨⟨rfl,hbk,hi0,hil⟩,hK⟩:=h
 cases hs
 cases hm with
 | mp _ _ _ b o e hn =>
   obtain ⟨b',o',e'',c,hn',hc,hl,g1,hv⟩:=hR.objs nm _ ho
   rw [hn] at hn'; cases hn'
   have hic:i.toNat<c.size:=by omega
   have hci:=Array.getElem?_eq_getElem hic
   have hms:(c.modify i.toNat fun e=>{ e with val:=xx }).size=c.size:=by simp
   have hmod:∀ (j:Nat) (y:MapEntry),(c.modify i.toNat fun e=>{ e with val:=xx })[j]?=some y→∃ y0,c[j]?=some y0∧y=if i.toNat=j then { y0 with val:=xx } else y0:=fun j y hy=>by
    rw [Array.getElem?_modify] at hy
    split at hy
    ·rename_i hji
     rw [← hji] at hy ⊢
     rw [hci] at hy
     simp at hy
     exact ⟨_,hci,by simp [← hy]⟩
    ·rename_i hji
     exact ⟨y,hy,by rw [if_neg hji]⟩
   have key:=hR.setmap (d:=w.drawn) hbk ho hn hc (c':=c.modify i.toNat fun e=>{ e with val:=xx }) (es':=es.modify i.toNat fun p=>(p.1,xv)) (by simp [hl]) (fun j y hy=>by
    obtain ⟨y0,h1,rfl⟩:=hmod j y hy
    have:=g1 j y0 h1
    split <;> exact this) (fun j q y hq hy=>by
    obtain ⟨y0,h1,rfl⟩:=hmod j y hy
    rw [List.getElem?_modify] at hq
    cases hes:es[j]? with
    | none=>simp [hes] at hq
    | some q0 =>
      have h0:=hv j q0 y0 hes h1
      by_cases hji:i.toNat=j
      ·simp [hes,hji] at hq
       subst hq
       rw [if_pos hji]
       exact ⟨h0.1,hx⟩
      ·simp [hes,hji] at hq
       subst hq
       rw [if_neg hji]
       exact h0)
   rw [hms] at key
   obtain ⟨hR',hS⟩:=key
   refine ⟨_,undef,_,_,_,_,hK,QfI _ _,hR',hS,by simp,.inr ⟨?_,rfl⟩⟩
   have hfind:c.findIdx? (fun e=>(e.born:Int)==i)=some i.toNat:=by
    rw [Array.findIdx?_eq_some_iff_getElem]
    refine ⟨hic,?_,fun j hj=>?_⟩
    ·have:=g1 _ _ hci
     simp [this]; omega
    ·have:=g1 j _ (Array.getElem?_eq_getElem (Nat.lt_trans hj hic))
     simp [this]; omega
   simp [Instr.entryStore,Zr hc,asInt,asIntOf,hfind,Qa6 _ hc]
 | _=>skip
theorem QLy (hR:Rel G I ρ σ w) (hF:FR I ρ n fr a) {base:Nat} (hb:base≤σ.o.length) {t:TypeId} (hu:P.underlying t=some (.map kt et)) {K:V→H→Prop}
 (h:evW base G fr σ K (.iter (Qa m))):WrOk P G base I ρ σ w (do pure (.value (← Instr.range t (a.eval m)))) K:=by
 have hm:=QF hR hF m
 simp only [evW] at h
 generalize arg G fr (Qa m)=u at h hm
 generalize a.eval m=mv at hm ⊢
 split at h <;> (try exact h.elim)
 rename_i nm v
 split at h <;> (try exact h.elim)
 rename_i v' es ho
 obtain ⟨rfl,hK⟩:=h
 cases hm with
 | mp _ _ _ b o e hn =>
   obtain ⟨b',o',e'',c,hn',hc,hl,g1,hv⟩:=hR.objs nm _ ho
   rw [hn] at hn'; cases hn'
   obtain ⟨hR',hS⟩:=hR.newiter hb (cnt:=c.size) hn
   rw [hl] at hK
   refine ⟨_,.pointer (some ⟨w.heap.size,0,none⟩),_,_,_,_,hK,?_,hR',hS,by simp [H.push],.inl ?_⟩
   ·exact VR.ptr (I:=I) _ σ.o.length σ.t 0 w.heap.size 0 0 (Names.add_self _ _ _ _)
   ·simp [Instr.range,run_underlying hu,Zr hc]
 | _=>skip
theorem QxR {es:List (V × V)} {i:Nat} {p:V × V} (h:es[i]?=some p):es.getD i (.any,.any)=p:=by simp [List.getD_eq_getElem?_getD,h]
theorem QK0 (hR:Rel G I ρ σ w) (hF:FR I ρ n fr a) {base:Nat} {ty:TypeId} {K:V→H→Prop}
 (h:evW base G fr σ K (.next (Qa m))):WrOk P G base I ρ σ w (do pure (.value (← Instr.next (a.eval m) false ty))) K:=by
 have hm:=QF hR hF m
 simp only [evW] at h
 generalize arg G fr (Qa m)=u at h hm
 generalize a.eval m=mv at hm ⊢
 split at h <;> (try exact h.elim)
 rename_i k v
 split at h <;> (try exact h.elim)
 rename_i v' nm mv' cnt seen ho
 split at h <;> (try exact h.elim)
 rename_i mv'' es hom
 obtain ⟨⟨rfl,hbk,rfl,rfl⟩,hK1,hK2⟩:=h
 have hk:k<σ.o.length:=(List.getElem?_eq_some_iff.1 ho).1
 cases hm with
 | ptr _ _ _ _ b o e hn =>
   obtain ⟨b',e',m,o',e'',hn',hnm,hc⟩:=hR.objs k _ ho
   rw [hn] at hn'; cases hn'
   obtain ⟨m',o2,e2,c,hn2,hcm,hl,g1,hv⟩:=hR.objs nm _ hom
   rw [hnm] at hn2; cases hn2
   have hblk:blk ρ σ k=some b:=by simp [blk,ho,Ob.ver,hn,Loc.block]
   have hgb:∀ d,(getObj b).run P { w with drawn:=d }=.ok (.mapIter (some m) es.length seen.toArray es.length) { w with drawn:=d }:=fun d=>by simp [getObj,Sem.run,hc]
   have hgm:∀ d,(getObj m).run P { w with drawn:=d }=.ok (.map c c.size) { w with drawn:=d }:=fun d=>by simp [getObj,Sem.run,hcm]
   have hcond:(!seen.toArray.isEmpty&&!c.isEmpty&&c.all (fun e=>decide (e.born≥es.length)))=false:=by
    by_cases h0:c.size=0
    ·have:c=#[]:=Array.eq_empty_of_size_eq_zero h0
     simp [this]
    ·have:c.all (fun e=>decide (e.born≥es.length))=false:=by
      rw [Bool.eq_false_iff]
      intro hall
      rw [Array.all_eq_true] at hall
      have:=hall 0 (by omega)
      have hb:=g1 0 _ (Array.getElem?_eq_getElem (by omega))
      simp only [hb,decide_eq_true_eq] at this
      omega
     simp [this]
   have hmem:∀ x∈c,x.born<es.length∧c[x.born]?=some x:=fun x hx=>by
    obtain ⟨i,hi,rfl⟩:=Array.getElem_of_mem hx
    have:=g1 i _ (Array.getElem?_eq_getElem hi)
    exact ⟨by omega,by rw [this]; exact Array.getElem?_eq_getElem hi⟩
   obtain ⟨left,hleft⟩:∃ left,left=c.filter fun e=>!seen.toArray.contains e.born:=⟨_,rfl⟩
   have hlm:∀ x∈left,x∈c∧x.born ∉ seen:=fun x hx=>by
    rw [hleft,Array.mem_filter] at hx
    exact ⟨hx.1,by simpa using hx.2⟩
   have hold:left.filter (fun e=>decide (e.born<es.length))=left:=by
    rw [Array.filter_eq_self]
    intro x hx
    have:=(hmem x (hlm x hx).1).1
    simpa using this
   have hnew:left.filter (fun e=>decide (e.born≥es.length))=#[]:=by
    rw [Array.filter_eq_empty_iff]
    intro x hx
    have:=(hmem x (hlm x hx).1).1
    simp; omega
   by_cases hle:left.isEmpty=true
   ·have hl0:left=#[]:=by simpa using hle
    have hall:∀ i,i<es.length→i∈seen:=fun i hi=>by
     by_cases hin:i∈seen
     ·exact hin
     ·exfalso
      have hci:=Array.getElem?_eq_getElem (show i<c.size by omega)
      have:c[i]∈left:=by
       rw [hleft,Array.mem_filter]
       refine ⟨Array.getElem_mem _,?_⟩
       rw [g1 i _ hci]
       simpa using hin
      rw [hl0] at this
      simp at this
    refine ⟨_,.tuple #[.bool false],_,_,_,_,hK1 hall,?_,hR,Step.refl _ _ _ _ _,Nat.le_refl _,.inl ?_⟩
    ·refine .tup _ _ _ rfl fun j v' x' h1 h2=>?_
     match j with
     | 0=>simp at h1 h2; subst h1; subst h2; exact .bool _ _
     | j+1=>simp at h1
    ·have h1:=hgb w.drawn
     have h2:=hgm w.drawn
     simp only [Instr.next,Sem.run_bind,Nat.add_zero,h1,h2,Result.andThen,hcond,← hleft,hold,hnew,hl0]
     simp [Question.forced]
   ·have hlf:left.isEmpty=false:=by simpa using hle
    have hpos:0<left.size:=by
     rcases Nat.eq_zero_or_pos left.size with h | h
     ·rw [Array.eq_empty_of_size_eq_zero h] at hlf; simp at hlf
     ·exact h
    obtain ⟨r,d,hr,hch⟩:∃ r d,r<left.size∧(choose (.mapNext left.size)).run P w=.ok r { w with drawn:=d }:=by
     by_cases hfo:left.size≤1
     ·exact ⟨0,w.drawn,hpos,by simp [Question.forced,hfo]⟩
     ·refine ⟨_,w.drawn+1,?_,by simp only [run_choose_drew,Question.forced,hfo,decide_false,Bool.false_eq_true,if_false]; rfl⟩
      simp only [Question.cut]
      exact Nat.mod_lt _ hpos
    have hx:=hlm left[r] (Array.getElem_mem hr)
    have hb:=hmem _ hx.1
    obtain ⟨i,hi⟩:∃ i,i=left[r].born:=⟨_,rfl⟩
    rw [← hi] at hb hx
    have hes:es[i]?=some es[i]:=List.getElem?_eq_getElem hb.1
    have hvi:=hv i _ _ hes hb.2
    have hK:=hK2 i hb.1 hx.2
    rw [QxR hes] at hK
    have hs:=heap_put (o':=.mapIter (some m) es.length (seen.toArray.push i) c.size) hc
    obtain ⟨hR',hS⟩:=hR.upd (base:=base) hbk (ρ':=ρ) (σ':=⟨σ.t,σ.o.set k (some (.it v nm mv' es.length (seen++[i])))⟩) (w':={ w with heap:=w.heap.setIfInBounds b (.mapIter (some m) es.length (seen.toArray.push i) c.size),drawn:=d }) (ob:=.it v nm mv' es.length (seen++[i])) (by simp [hk]) (fun m hm=>by simp [List.getElem?_set_ne (Ne.symm hm)]) (Nat.le_refl _) (Names.le.refl _) (fun m v l h=>.inl h) rfl rfl rfl (by simp)
     (fun b' hb' hne=>hs.2 b' fun e=>hne (e▸hblk)) ⟨b,e,m,o',e'',hn,hnm,by rw [hs.1,hl]; simp⟩ (fun b' hb'=>by
      right
      simp only [Ob.ver,hn,Option.bind_some,Loc.block,Option.some.injEq] at hb'
      rw [hblk,hb'])
    refine ⟨_,.tuple #[.bool true,left[r].key,left[r].val],_,_,_,_,hK,QyN (.bool _ _) (hvi.1.mono (Imm.le.refl _) (fun _ _ _ h=>by cases h)) hvi.2,hR',hS,by simp,.inl ?_⟩
    have h1:=hgb w.drawn
    have h2:=hgm w.drawn
    have hsz:(#[]++(left++#[]).map some).size=left.size:=by simp
    have hset:(setObj b (.mapIter (some m) es.length (seen.toArray.push i) c.size)).run P { w with drawn:=d }=.ok () { w with heap:=w.heap.setIfInBounds b (.mapIter (some m) es.length (seen.toArray.push i) c.size),drawn:=d }:=by simp [setObj,Sem.run,hc]
    simp only [Instr.next,Sem.run_bind,Nat.add_zero,h1,h2,Result.andThen,hcond,← hleft,hold,hnew,hlf,Bool.false_eq_true,if_false,hsz,hch]
    rw [show seen.toArray.push i=(seen++[i]).toArray from by simp] at hset
    simp [hr,← hi,hset]
 | _=>skip
theorem QAB (hR:Rel G I ρ σ w) (hF:FR I ρ n fr a) {base:Nat} {K:V→H→Prop}
 (h:evW base G fr σ K (.entry (Qa m))):WrOk P G base I ρ σ w (do pure (.value (← Instr.entry (a.eval m)))) K:=by
 have hm:=QF hR hF m
 simp only [evW] at h
 generalize arg G fr (Qa m)=u at h hm
 generalize a.eval m=mv at hm ⊢
 split at h <;> (try exact h.elim)
 rename_i k v
 split at h <;> (try exact h.elim)
 rename_i v' nm mv' cnt seen ho
 split at h <;> (try exact h.elim)
 rename_i mv'' es i hom hlast
 obtain ⟨⟨rfl,rfl,rfl,hi⟩,hK⟩:=h
 cases hm with
 | ptr _ _ _ _ b o e hn =>
   obtain ⟨b',e',m,o',e'',hn',hnm,hc⟩:=hR.objs k _ ho
   rw [hn] at hn'; cases hn'
   obtain ⟨m',o2,e2,c,hn2,hcm,hl,g1,hv⟩:=hR.objs nm _ hom
   rw [hnm] at hn2; cases hn2
   have hes:es[i]?=some es[i]:=List.getElem?_eq_getElem hi
   have hci:=Array.getElem?_eq_getElem (show i<c.size by omega)
   have hvi:=hv i _ _ hes hci
   rw [QxR hes] at hK
   refine ⟨_,.tuple #[c[i].key,c[i].val],_,_,_,_,hK,QlJ (hvi.1.mono (Imm.le.refl _) (fun _ _ _ h=>by cases h)) hvi.2,hR,Step.refl _ _ _ _ _,Nat.le_refl _,.inl ?_⟩
   have hback:seen.toArray.back?=some i:=by simpa using hlast
   have hfind:c.find? (fun e=>e.born==i)=some c[i]:=by
    rw [Array.find?_eq_some_iff_getElem]
    refine ⟨by simp [g1 i _ hci],i,by omega,rfl,fun j hj=>?_⟩
    have:=g1 j _ (Array.getElem?_eq_getElem (show j<c.size by omega))
    simp [this]; omega
   have h1:(getObj b).run P w=.ok (.mapIter (some m) es.length seen.toArray es.length) w:=by simp [getObj,Sem.run,hc]
   have h2:(getObj m).run P w=.ok (.map c c.size) w:=by simp [getObj,Sem.run,hcm]
   simp [Instr.entry,h1,h2,hback,hl,hfind]
 | _=>skip
end Go.Am
namespace Go.Am
open Go
inductive AT where
 | done
 | rd (d:Option Nat) (g:Option (Nat × Bool)) (op:AOp) (t:AT)
 | wr (k:Bool) (d:Option Nat) (g:Option (Nat × Bool)) (op:AOp) (t:AT)
 | cl (k:Bool) (d:Option Nat) (g:Option (Nat × Bool)) (f:Arg) (args:List Arg) (t:AT)
 | bad (k:Bool) (d:Option Nat) (g:Option (Nat × Bool)) (t:AT)
 | alt (s t:AT)
def Qlt (P:Program) (t:TypeId):Option (Nat × Nat × Nat × Value) :=
 match P.underlying t with
 | some (.slice e)=>match P.info? e with
   | some i=>match i.zero with
     | some z=>if z.cells.size=i.size∧i.size≠0 then some (e,i.size,i.bytes,z) else none
     | none=>none
   | none=>none
 | _=>none
theorem QdH {P:Program} {t e sz bytes:Nat} {z:Value} (h:Qlt P t=some (e,sz,bytes,z)):ElemT P t e sz bytes z:=by
 unfold Qlt at h
 split at h <;> (try cases h)
 rename_i e' hu
 split at h <;> (try cases h)
 rename_i i hi
 split at h <;> (try cases h)
 rename_i z' hz
 split at h <;> cases h
 rename_i hh
 exact ⟨hu,⟨i,hi,rfl,rfl,hz⟩,hh.1,hh.2⟩
theorem ElemT.szOf {P:Program} {t e sz bytes:Nat} {z:Value} (h:ElemT P t e sz bytes z):Am.szOf P e=some sz:=by
 obtain ⟨i,hi,h1,_,_⟩:=h.info
 simp [Am.szOf,hi,h1]
theorem ElemT.zeroOf {P:Program} {t e sz bytes:Nat} {z:Value} (h:ElemT P t e sz bytes z):Am.zeroOf P e=some z:=by
 obtain ⟨i,hi,_,_,h1⟩:=h.info
 simp [Am.zeroOf,hi,h1]
def Qzq (P:Program) (t:TypeId):Option Bool :=
 match P.underlying t with
 | some .string=>some true
 | some (.slice _)=>some false
 | _=>none
theorem QsO {P:Program} {t:TypeId} {str:Bool} (h:Qzq P t=some str):∃ d,P.underlying t=some d∧(d=.string∨∃ k,d=.slice k):=by
 unfold Qzq at h
 split at h <;> (try cases h) <;> rename_i hu
 ·exact ⟨_,hu,.inl rfl⟩
 ·exact ⟨_,hu,.inr ⟨_,rfl⟩⟩
def Qt3 (M:Nat→Bool):Option Nat→Bool
 | some d=>M d
 | none=>false
def Qyh (P:Program) (m:Bool) (b:Go.Builtin) (args:List Operand) (ts:List TypeId):Option AOp :=
 match b,args,ts with
 | .append,[s,x],[t,tx]=>match Qlt P t,Qzq P tx with
   | some (e,sz,bytes,_),some str=>some (if m then .appin sz bytes str (Qa s) (Qa x) else .app e sz bytes str (Qa s) (Qa x))
   | _,_=>none
 | .copy,[d,s],[t,tx]=>match Qlt P t,Qzq P tx with
   | some (_,sz,_,_),some str=>some (.copy sz str (Qa d) (Qa s))
   | _,_=>none
 | .clear,[x],[t]=>match Qlt P t with
   | some (_,sz,_,z)=>some (.clr sz (ZA z) (Qa x))
   | none=>none
 | _,_,_=>none
def isU8 (P:Program) (e:TypeId):Bool :=
 match P.underlying e with
 | some (.int .u8)=>true
 | _=>false
theorem Qrq {P:Program} {e:TypeId} (h:isU8 P e=true):P.underlying e=some (.int .u8):=by
 unfold isU8 at h
 split at h
 ·assumption
 ·cases h
def Qyg (P:Program) (src dst:TypeId) (x:Operand):Option AOp :=
 match P.underlying src,P.underlying dst with
 | some (.slice e),some .string=>if isU8 P e then some (.tostr (Qa x)) else none
 | some .string,some (.slice e)=>if isU8 P e then some (.tobytes e (Qa x)) else none
 | some (.slice _),some (.slice e)=>if src=dst∧isU8 P e=true then some (.mark (Qa x)) else none
 | _,_=>none
def Qyi (P:Program) (M:Nat→Bool) (o:Oper):Option AOp :=
 match o.op with
 | .alloc T=>(zeroOf P T).map fun z=>.new T (ZA z)
 | .box T x=>some (.box T (Qa x))
 | .store t p x=>(szOf P t).map fun sz=>.store sz (Qa p) (Qa x)
 | .makeMap t none=>some .mkmap
 | .buildSlice t len ps=>match Qlt P t with
   | some (e,sz,_,z)=>match Qav P e,ps.toList.mapM (fun p=>some (p.1 * sz,sz,Qa p.2)) with
     | some ag,some qs=>if len * sz≤16777216∧(ag=false→sz=1) then some (.bsl (Qt3 M o.dst) ag e sz (ZA z) len qs) else none
     | _,_=>none
   | none=>none
 | .makeSlice t l c=>(Qlt P t).map fun q=>.mksl q.1 q.2.1 q.2.2.1 (ZA q.2.2.2) (Qa l) (Qa c)
 | .mapUpdate t m k x=>match P.underlying t with
   | some (.map kt _)=>(Qrn P kt).map fun q=>.mapup q.1 q.2 (Qa m) (Qa k) (Qa x)
   | _=>none
 | .insert t m k x=>match P.underlying t with
   | some (.map kt _)=>(Qrn P kt).map fun q=>.mapup q.1 q.2 (Qa m) (Qa k) (Qa x)
   | _=>none
 | .convert src dst x=>Qyg P src dst x
 | .mapEntry t m k=>match P.underlying t with
   | some (.map kt et)=>match Qrn P kt,zeroOf P et with
     | some q,some z=>some (.ment q.1 q.2 (ofV z) (Qa m) (Qa k))
     | _,_=>none
   | _=>none
 | .entryStore _ m s x=>some (.mst (Qa m) (Qa s) (Qa x))
 | .range t x=>match P.underlying t with
   | some (.map _ _)=>some (.iter (Qa x))
   | _=>none
 | .next x false=>some (.next (Qa x))
 | .entry x=>some (.entry (Qa x))
 | .call c=>match c.callee with
   | .builtin b=>Qyh P (Qt3 M o.dst) b c.args.toList c.argTypes.toList
   | _=>none
 | _=>none
def Quu (ops:Array Oper):Option (Nat × Bool)→Option (Option (Nat × Bool))
 | none=>some none
 | some (j,b)=>((ops[j]?).bind (·.dst)).map fun s=>some (s,b)
def dstB (n:Nat):Option Nat→Bool
 | none=>true
 | some d=>decide (d<n)
def Qnx (o:Oper):Option (Arg × List Arg) :=
 match o.op with
 | .call c=>match c.callee with
   | .value f=>some (Qa f,c.args.toList.map Qa)
   | _=>none
 | _=>none
def Qn (P:Program) (f:FuncId):Bool :=
 match P.funcs[f]? with
 | some fn => fn.body.isSome && fn.name != "runtime.NumGoroutine"
 | none=>false
def QLB (M:Nat→Bool) (o:Oper):Bool :=
 match o.op with
 | .load ..=>Qt3 M o.dst
 | _=>false
def AOp.imm:AOp→AOp
 | .load ag sz x=>.loadi ag sz x
 | op=>op
def Zn (P:Program) (n:Nat) (M:Nat→Bool) (ops:Array Oper):Tr→Option AT
 | .done=>some .done
 | .rd i t=>match ops[i]? with
   | some o=>match Qqc P o,Quu ops o.guard,Zn P n M ops t with
     | some op,some g,some t=>if dstB n o.dst then some (.rd o.dst g op t) else none
     | _,_,_=>none
   | none=>none
 | .pu i t=>match ops[i]? with
   | some o=>match Qqc P o,Quu ops o.guard,Zn P n M ops t with
     | some op,some g,some t=>if dstB n o.dst then (if Qo8 P o then some (.rd o.dst g op t) else if QLB M o then some (.rd o.dst g op.imm t) else none) else none
     | _,_,_=>none
   | none=>none
 | .op i k t=>match ops[i]? with
   | some o=>match Quu ops o.guard,Zn P n M ops t with
     | some g,some t=>if dstB n o.dst then
      match Qqc P o with
      | some op=>some (.rd o.dst g op t)
      | none=>match Qyi P M o with
        | some op=>some (.wr k o.dst g op t)
        | none=>match Qnx o with
          | some (f,args)=>some (.cl k o.dst g f args t)
          | none=>some (.bad k o.dst g t)
       else none
     | _,_=>none
   | none=>none
 | .alt s t=>match Zn P n M ops s,Zn P n M ops t with
   | some s,some t=>some (.alt s t)
   | _,_=>none
variable (P:Program) (G:Nat→Option V)
def C (base:Nat) (f:FuncId) (args:List V) (σ:H) (Q:V→H→Prop):Prop :=
 ∀ (I:Imm) (ρ:Names) (w:World) (xs:Array Value),Rel G I ρ σ w→base≤σ.o.length→Cells I ρ args xs →
   Calls P f xs w fun e w'=>∃ v x I' ρ' σ',e=.returned x∧VR I' ρ' v x∧Rel G I' ρ' σ' w'∧Step base I ρ σ w I' ρ' σ' w'∧base≤σ'.o.length∧Q v σ'
def CV (base:Nat) (f:V) (args:List V) (σ:H) (Q:V→H→Prop):Prop :=
 match f with
 | .fn (.func f) first cap=>Qn P f=true∧C P G base f (first++args++cap) σ Q
 | _=>False
def Post (n base:Nat) (I:Imm) (ρ:Names) (σ:H) (w:World) (K:Fr→H→Prop) (a':Act) (w':World):Prop :=
 ∃ I' ρ' fr' σ',Rel G I' ρ' σ' w'∧FR I' ρ' n fr' a'∧Step base I ρ σ w I' ρ' σ' w'∧base≤σ'.o.length∧K fr' σ'
def WT (n base:Nat) (t:AT) (fr:Fr) (σ:H) (K:Fr→H→Prop):Prop :=
 ∀ (ops:Array Oper) (tr:Tr) (M:Nat→Bool),Zn P n M ops tr=some t→∀ (I:Imm) (ρ:Names) (w:World) (a:Act),Rel G I ρ σ w→FR I ρ n fr a→base≤σ.o.length→∀ (S:Sg),Guard S I ρ σ w →
   RTree P ops (Post G n base I ρ σ w K) tr ⟨S,stays I⟩ a w
def AOp.isApp:AOp→Bool
 | .app ..=>true
 | _=>false
def Qbr (g:Option (Nat × Bool)) (fr:Fr) (A B:Fr→Prop):Prop :=
 match g with
 | none=>A fr
 | some (s,b)=>match Qd fr s with
   | .bool c=>(c=b→A (QfT fr s (.bool b)))∧(c = !b→B (QfT fr s (.bool !b)))
   | .tup _=>B fr
   | _=>False
def wt (n base:Nat):AT→Fr→H→(Fr→H→Prop)→Prop
 | .done,fr,σ,K=>K fr σ
 | .rd d g op t,fr,σ,K=>Qbr g fr (fun fr=>evR G fr σ (fun v=>wt n base t (fput fr d v) σ K) op) (fun fr=>wt n base t (fput fr d (.tup [])) σ K)
 | .wr k d g op t,fr,σ,K=>Qbr g fr (fun fr=>evW (if k&&!op.isApp then σ.o.length else base) G fr σ (fun v σ'=>wt n base t (fput fr d v) σ' K) op) (fun fr=>wt n base t (fput fr d (.tup [])) σ K)
 | .cl k d g f args t,fr,σ,K=>Qbr g fr (fun fr=>CV P G (if k then σ.o.length else base) (arg G fr f) (args.map (arg G fr)) σ fun v σ'=>WT P G n base t (fput fr d v) σ' K) (fun fr=>wt n base t (fput fr d (.tup [])) σ K)
 | .bad _ d g t,fr,σ,K=>Qbr g fr (fun _=>False) (fun fr=>wt n base t (fput fr d (.tup [])) σ K)
 | .alt s t,fr,σ,K=>wt n base s fr σ K∧wt n base t fr σ K
variable {P G} {w':World} {σ':H} {ρ':Names} {I':Imm}
theorem Step.weaken {base base':Nat} {I:Imm} {ρ:Names} {σ:H} {w:World} (R:Rel G I ρ σ w) (hb:base≤base') (h:Step base' I ρ σ w I' ρ' σ' w'):Step base I ρ σ w I' ρ' σ' w' where
 os:=h.os
 tape:=h.tape
 output:=h.output
 size:=h.size
 names:=h.names
 imms:=h.imms
 tick:=h.tick
 newnames:=h.newnames
 keep:=fun b hlt hn=>h.keep b hlt fun m hm=>hn m (by omega)
 owned:=fun m b hm e=>by
  by_cases hmb:base'≤m
  ·exact (h.owned m b hmb e).imp id fun ⟨m',h1,h2⟩=>⟨m',by omega,h2⟩
  ·rcases h.below m (by omega) with e' | e'
   ·right
    refine ⟨m,hm,?_⟩
    have e0:blk ρ' σ' m=blk ρ' σ m:=by unfold blk; rw [e']
    rw [e0] at e
    cases ho:σ.o[m]? with
    | none=>simp [blk,ho] at e
    | some o=>cases o with
      | none=>simp [blk,ho] at e
      | some ob =>
        have:∃ l,ρ m ob.ver=some l:=by
         have:=R.objs m ob ho
         cases ob with
         | arr v T cs=>rcases this with ⟨h,_⟩ | ⟨b,o,e,_,_,_,h,_⟩ <;> exact ⟨_,h⟩
         | map v es=>obtain ⟨b,o,e,_,h,_⟩:=this; exact ⟨_,h⟩
         | it v nm mv cnt seen=>obtain ⟨b,e,_,_,_,h,_⟩:=this; exact ⟨_,h⟩
        obtain ⟨l,hl⟩:=this
        simp only [blk,ho,h.names _ _ _ hl] at e
        simp only [blk,ho,hl]
        exact e
   ·exfalso
    unfold blk at e
    split at e
    ·rename_i ob ho; exact e' ob ho
    ·cases e
 immed:=fun b o hI hI'=>(h.immed b o hI hI').imp id fun ⟨m,h1,h2⟩=>⟨m,by omega,h2⟩
 below:=fun m hm=>h.below m (by omega)
theorem Step.ex {I:Imm} {ρ:Names} {σ:H} {w:World} {base:Nat} (hb:σ.o.length≤base) (h:Step base I ρ σ w I' ρ' σ' w'):Ex w w' :=
 ⟨h.os,h.tape,h.output,h.size,fun b hlt=>h.keep b hlt fun m hm=>by simp [blk,List.getElem?_eq_none (show σ.o.length≤m by omega)]⟩
theorem C.conseq {base f args σ} {Q Q':V→H→Prop} (h:C P G base f args σ Q) (k:∀ v σ',Q v σ'→Q' v σ'):C P G base f args σ Q' :=
 fun I ρ w xs hR hb hc=>(h I ρ w xs hR hb hc).mono fun e w' ⟨v,x,I',ρ',σ',h1,h2,h3,h4,h5,h6⟩=>⟨v,x,I',ρ',σ',h1,h2,h3,h4,h5,k _ _ h6⟩
theorem Post.conseq {n base I ρ σ w} {K K':Fr→H→Prop} (k:∀ fr σ,K fr σ→K' fr σ) {a' w'} (h:Post G n base I ρ σ w K a' w'):Post G n base I ρ σ w K' a' w':=by
 obtain ⟨I',ρ',fr',σ',h1,h2,h3,h4,h5⟩:=h
 exact ⟨I',ρ',fr',σ',h1,h2,h3,h4,k _ _ h5⟩
theorem Post.after {n base I ρ σ w I1 ρ1 σ1 w1} {K:Fr→H→Prop} (hS:Step base I ρ σ w I1 ρ1 σ1 w1) {a' w'} (h:Post G n base I1 ρ1 σ1 w1 K a' w'):Post G n base I ρ σ w K a' w':=by
 obtain ⟨I',ρ',fr',σ',h1,h2,h3,h4,h5⟩:=h
 exact ⟨I',ρ',fr',σ',h1,h2,hS.trans h3,h4,h5⟩
theorem RTree.conseq {ops:Array Oper} {Q Q':Act→World→Prop} (k:∀ a w,Q a w→Q' a w):∀ {t:Tr} {S:SZ} {a:Act} {w:World},RTree P ops Q t S a w→RTree P ops Q' t S a w
 | .done,_,_,_,h=>k _ _ h
 | .rd i t,_,_,_,h=>let ⟨o,v,h1,h2,h3⟩:=h; ⟨o,v,h1,h2,RTree.conseq k h3⟩
 | .pu i t,_,_,_,h=>let ⟨o,v,h1,h2,h3⟩:=h; ⟨o,v,h1,h2,RTree.conseq k h3⟩
 | .op i c t,_,_,_,h=>opN.mono h fun a w ⟨S',h0,h1,h2⟩=>⟨S',h0,h1,RTree.conseq k h2⟩
 | .alt s t,_,_,_,h=>⟨RTree.conseq k h.1,RTree.conseq k h.2⟩
theorem Step.stays {I:Imm} {ρ:Names} {σ:H} {w:World} {base:Nat} (R:Rel G I ρ σ w) (R':Rel G I' ρ' σ' w') (h:Step base I ρ σ w I' ρ' σ' w'):(Am.stays I).le (Am.stays I')∧Ek (Am.stays I) w w' :=
 ⟨⟨fun b o ⟨x,hx⟩=>⟨x,h.imms _ _ _ hx⟩,fun _ h=>h.elim⟩,h.os,h.tape,h.output,h.size,fun b o ⟨x,hx⟩=>((R'.imm _ _ _ (h.imms _ _ _ hx)).1).trans ((R.imm _ _ _ hx).1).symm,fun _ h=>h.elim⟩
theorem Quiet.ofStep {I:Imm} {ρ:Names} {σ:H} {w:World} {base:Nat} (hb:σ.o.length≤base) (R:Rel G I ρ σ w) (R':Rel G I' ρ' σ' w') (h:Step base I ρ σ w I' ρ' σ' w'):Quiet I ρ σ w I' ρ' σ' w':=by
 have hno:∀ b,¬ ∃ m,base≤m∧blk ρ σ m=some b:=fun b ⟨m,hm,hm2⟩=>by simp [blk,List.getElem?_eq_none (show σ.o.length≤m by omega)] at hm2
 refine Quiet.mk (fun S g=>Ek.of_ex g (h.ex hb)) R' fun n v T cs b o e h1 h2=>?_
 have hblk:blk ρ' σ' n=some b:=by simp [blk,h1,Ob.ver,h2,Loc.block]
 by_cases hn:base≤n
 ·exact .inl ((h.owned n b hn hblk).resolve_right (hno b))
 ·rcases h.below n (by omega) with hs | hs
  ·rw [hs] at h1
   refine .inr ⟨v,T,cs,o,h1,?_,Nat.le_refl _⟩
   rcases R.objs n _ h1 with ⟨q,_⟩ | ⟨b',o',e',_,_,_,q,_⟩
   ·have:=h.names _ _ _ q; rw [h2] at this; cases this
   ·have:=h.names _ _ _ q; rw [h2] at this; cases this; exact q
  ·exact absurd h1 (hs _)
theorem QdE {ops:Array Oper} {n:Nat} {I ρ} {fr:Fr} {a:Act} (hF:FR I ρ n fr a) {o:Oper} {g:Option (Nat × Bool)} (hg:Quu ops o.guard=some g) {A B:Fr→Prop} (h:Qbr g fr A B) :
 (Region.wanted o (yielded ops a.tmps)=true∧∃ fr',FR I ρ n fr' a∧A fr')∨(Region.wanted o (yielded ops a.tmps)=false∧∃ fr',FR I ρ n fr' a∧B fr'):=by
 unfold Region.wanted
 cases hgd:o.guard with
 | none =>
   rw [hgd] at hg
   simp only [Quu,Option.some.injEq] at hg
   subst hg
   exact .inl ⟨rfl,fr,hF,h⟩
 | some jb =>
   obtain ⟨j,b⟩:=jb
   rw [hgd] at hg
   simp only [Quu] at hg
   obtain ⟨s,hs,rfl⟩:=Option.map_eq_some_iff.1 hg
   simp only [Qbr] at h
   have hv:=hF.vals s
   have hy:yielded ops a.tmps j=match a.tmps[s]? with | some (.bool b)=>some b | _=>none:=by unfold yielded; rw [hs]; rfl
   have hset:∀ c,a.tmps.getD s undef=.bool c→FR I ρ n (QfT fr s (.bool c)) a:=fun c hc=>by
    refine ⟨hF.defers,hF.size,fun t=>?_⟩
    rw [Qff]
    split
    ·rename_i e; subst e; rw [hc]; exact .bool _ _
    ·exact hF.vals t
   split at h <;> (try exact h.elim)
   ·rename_i c hc
    rw [hc] at hv
    generalize hx:a.tmps.getD s undef=x at hv
    cases hv
    have hx':a.tmps[s]?=some (.bool c):=by
     rw [Array.getD_eq_getD_getElem?] at hx
     cases h:a.tmps[s]? with
     | none=>rw [h] at hx; simp [undef] at hx
     | some y=>rw [h] at hx; simp at hx; rw [hx]
    simp only [hy,hx']
    cases hcb:(c==b) with
    | true =>
      have:c=b:=by simpa using hcb
      subst this
      exact .inl ⟨by simp,_,hset _ hx,h.1 rfl⟩
    | false =>
      have hne:c = !b:=by cases c <;> cases b <;> simp_all
      have:=h.2 hne
      rw [← hne] at this
      exact .inr ⟨by simpa using (fun e=>by simp [e] at hcb),_,hset _ hx,this⟩
   ·rename_i l hc
    rw [hc] at hv
    generalize hx:a.tmps.getD s undef=x at hv
    have hyn:yielded ops a.tmps j=none:=by
     rw [hy]
     cases h:a.tmps[s]? with
     | none=>rfl
     | some y =>
       rw [Array.getD_eq_getD_getElem?,h] at hx
       simp at hx
       subst hx
       cases hv
       rfl
    exact .inr ⟨by simp [hyn],fr,hF,h⟩
end Go.Am
namespace Go.Am
open Go
variable {P:Program} {G:Nat→Option V}
theorem WrOk.congr {base:Nat} {I:Imm} {ρ:Names} {σ:H} {w:World} {s s':Sem Next} {K:V→H→Prop} (h:WrOk P G base I ρ σ w s K) (e:s'.run P w=s.run P w):WrOk P G base I ρ σ w s' K:=by
 obtain ⟨v,x,I',ρ',σ',w',h1,h2,h3,h4,h5,h6⟩:=h
 exact ⟨v,x,I',ρ',σ',w',h1,h2,h3,h4,h5,by rw [e]; exact h6⟩
variable {op:AOp} {M:Nat→Bool}
theorem QxZ {base:Nat} {I:Imm} {ρ:Names} {σ:H} {w:World} {n:Nat} {fr:Fr} {a:Act} (hR:Rel G I ρ σ w) (hF:FR I ρ n fr a) (hb:base≤σ.o.length) {o:Oper} (hc:Qyi P M o=some op) {K:V→H→Prop} (h:evW base G fr σ K op) :
 WrOk P G base I ρ σ w (execOp a.eval o) K:=by
 unfold Qyi at hc
 unfold execOp
 split at hc
 ·rename_i T ho
  obtain ⟨z,hz,rfl⟩:=Option.map_eq_some_iff.1 hc
  simp only [ho]
  exact new_ok hR hb hz h
 ·rename_i T x ho
  cases hc
  simp only [ho]
  exact box_ok hR hF hb h
 ·rename_i t p x ho
  obtain ⟨sz,hz,rfl⟩:=Option.map_eq_some_iff.1 hc
  simp only [ho]
  exact Qzp hR hF hz h
 ·rename_i t ho
  cases hc
  simp only [ho]
  exact QzQ hR hb h
 ·rename_i t len ps ho
  split at hc <;> (try cases hc)
  rename_i e sz by' z hel
  split at hc <;> (try cases hc)
  rename_i ag qs hag hqs
  split at hc <;> cases hc
  rename_i hle
  have hT:=QdH hel
  simp only [ho]
  cases hm:Qt3 M o.dst with
  | true=>rw [hm] at h; exact QMf hR hF hb hT.und hT.szOf hT.zeroOf hT.zsz hle.1 hqs h
  | false=>rw [hm] at h; exact QMg hR hF hT.und hT.szOf hT.pos hle.2 hT.zeroOf hT.zsz hle.1 hqs h
 ·rename_i t l c ho
  obtain ⟨⟨e,sz,bytes,z⟩,hel,rfl⟩:=Option.map_eq_some_iff.1 hc
  simp only [ho]
  exact QK5 hR hF hb (QdH hel) h
 ·rename_i t m k x ho
  split at hc <;> (try cases hc)
  rename_i kt et hu
  obtain ⟨⟨ag,ks⟩,hk,rfl⟩:=Option.map_eq_some_iff.1 hc
  simp only [ho]
  exact Qs9 hR hF hu (Qlj hk) h
 ·rename_i t m k x ho
  split at hc <;> (try cases hc)
  rename_i kt et hu
  obtain ⟨⟨ag,ks⟩,hk,rfl⟩:=Option.map_eq_some_iff.1 hc
  simp only [ho]
  exact Qs9 hR hF hu (Qlj hk) h
 ·rename_i src dst x ho
  simp only [ho]
  unfold Qyg at hc
  split at hc <;> (try cases hc)
  ·rename_i e h1 h2
   split at hc <;> cases hc
   rename_i h3
   exact Qzh hR hF h1 (Qrq h3) h2 h
  ·rename_i e h1 h2
   split at hc <;> cases hc
   rename_i h3
   exact QtR hR hF hb h1 h2 (Qrq h3) h
  ·rename_i e0 e h1 h2
   split at hc <;> cases hc
   rename_i h3
   obtain ⟨rfl,h3⟩:=h3
   exact QLa hR hF h2 (Qrq h3) h
 ·rename_i t m k ho
  split at hc <;> (try cases hc)
  rename_i kt et hu
  split at hc <;> (try cases hc)
  rename_i q z hk hz
  simp only [ho]
  exact QK7 hR hF hu (Qlj (ag:=q.1) (ks:=q.2) hk) hz h
 ·rename_i t m s x ho
  cases hc
  simp only [ho]
  exact mst_ok hR hF h
 ·rename_i t x ho
  split at hc <;> cases hc
  rename_i hu
  simp only [ho]
  exact QLy hR hF hb hu h
 ·rename_i x ho
  cases hc
  simp only [ho]
  exact QK0 hR hF h
 ·rename_i x ho
  cases hc
  simp only [ho]
  exact QAB hR hF h
 ·rename_i c ho
  split at hc <;> (try cases hc)
  rename_i b hcal
  simp only [ho]
  obtain ⟨callee,args,ts⟩:=c
  simp only at hcal hc
  subst hcal
  have hl:args=args.toList.toArray:=by simp
  have ht:ts=ts.toList.toArray:=by simp
  generalize args.toList=al at hl hc
  generalize ts.toList=tl at ht hc
  subst hl; subst ht
  unfold Qyh at hc
  split at hc <;> (try cases hc)
  ·rename_i s x t tx
   split at hc <;> cases hc
   rename_i e sz bytes z str hel hsr
   obtain ⟨d,hd,hdd⟩:=QsO hsr
   cases hm:Qt3 M o.dst with
   | true =>
     simp only [hm] at h
     exact (QA7 (ty:=o.type) hR hF (QdH hel) hd hdd h).congr (by simp [resolve,invoke,builtin])
   | false =>
     simp only [hm] at h
     exact (app_ok (ty:=o.type) hR hF hb (QdH hel) hd hdd h).congr (by simp [resolve,invoke,builtin])
  ·rename_i d s t tx
   split at hc <;> cases hc
   rename_i e sz bytes z str hel hsr
   have hT:=QdH hel
   exact (QLY (tx:=tx) (ty:=o.type) hR hF hT.und hT.szOf hT.pos h).congr (by simp [resolve,invoke,builtin])
  ·rename_i x t
   split at hc
   ·rename_i e sz bytes z hel
    cases hc
    have hT:=QdH hel
    exact (clr_ok (ty:=o.type) hR hF hT.und hT.zeroOf hT.zsz h).congr (by simp [resolve,invoke,builtin])
   ·cases hc
 ·cases hc
variable {Q:Act→World→Prop} {i:Nat} {ops:Array Oper}
theorem Qw5 {base n:Nat} {I:Imm} {ρ:Names} {σ:H} {w:World} {fr:Fr} {a:Act} {o:Oper} (ho:ops[i]?=some o) (hw:Region.wanted o (yielded ops a.tmps)=true) {K:V→H→Prop} (h:WrOk P G base I ρ σ w (execOp a.eval o) K)
 (k:∀ v x I' ρ' σ' w',K v σ'→VR I' ρ' v x→Rel G I' ρ' σ' w'→Step base I ρ σ w I' ρ' σ' w'→σ.o.length≤σ'.o.length→Q (a.put o.dst x) w'):opN P ops i a w Q:=by
 obtain ⟨v,x,I',ρ',σ',w',h1,h2,h3,h4,h5,h6⟩:=h
 refine ⟨o,ho,?_⟩
 rw [if_pos hw]
 unfold op1
 rcases h6 with h6 | ⟨h6,rfl⟩ <;> (rw [h6]; exact k _ _ _ _ _ _ h1 h2 h3 h4 h5)
variable {d:Option Nat}
theorem QaR {n:Nat} (h:dstB n d=true):∀ t,d=some t→t<n:=fun t e=>by subst e; simpa [dstB] using h
theorem Qd4 (I ρ):VR I ρ (.tup []) undef:=.tup _ _ _ rfl fun j v x h=>by simp at h
variable {f:Arg}
theorem Qrc {base n:Nat} {I:Imm} {ρ:Names} {σ:H} {w:World} {fr:Fr} {a:Act} (hR:Rel G I ρ σ w) (hF:FR I ρ n fr a) (hb:base≤σ.o.length) {o:Oper} (ho:ops[i]?=some o) (hw:Region.wanted o (yielded ops a.tmps)=true) {args:List Arg} (hc:Qnx o=some (f,args)) {K:V→H→Prop}
 (h:CV P G base (arg G fr f) (args.map (arg G fr)) σ K)
 (k:∀ v x I' ρ' σ' w',K v σ'→VR I' ρ' v x→Rel G I' ρ' σ' w'→Step base I ρ σ w I' ρ' σ' w'→base≤σ'.o.length→Q (a.put o.dst x) w'):opN P ops i a w Q:=by
 unfold Qnx at hc
 split at hc <;> (try cases hc)
 rename_i c hoc
 split at hc <;> (try cases hc)
 rename_i fo hcal
 have hf:=QF hR hF fo
 unfold CV at h
 generalize hfx:a.eval fo=fx at hf
 split at h <;> (try exact h.elim)
 rename_i f first cap hfe
 obtain ⟨hbod,h⟩:=h
 rw [hfe] at hf
 cases hf with
 | fn _ _ _ cs _ ds g1 g2 g3 g4 =>
   have hcells:Cells I ρ (first++(c.args.toList.map Qa).map (arg G fr)++cap) (cs++c.args.map a.eval++ds) :=
    Cells.append (Cells.append ⟨g1,g3⟩ ⟨by simp,QlI hR hF c.args⟩) ⟨g2,g4⟩
   have hcall:=h I ρ w _ hR hb hcells
   have hrun:(execOp a.eval o).run P w=.ok (.enter f (cs++c.args.map a.eval++ds)) w:=by
    unfold Qn at hbod
    split at hbod
    ·rename_i fn hfn
     simp only [Bool.and_eq_true,bne_iff_ne,ne_eq] at hbod
     have hbn:fn.body.isNone=false:=by cases hh:fn.body <;> simp_all
     unfold execOp
     have hbs:fn.body≠none:=fun e=>by simp [e] at hbn
     simp [hoc,resolve,hcal,hfx,Deferred.ofValue,invoke,callFunc,hfn,hbod.2,hbs]
    ·cases hbod
   refine ⟨o,ho,?_⟩
   rw [if_pos hw]
   unfold op1
   rw [hrun]
   exact hcall.mono fun e w' ⟨v,x,I',ρ',σ',h1,h2,h3,h4,h5,h6⟩=>⟨x,h1,k _ _ _ _ _ _ h6 h2 h3 h4 h5⟩
theorem WT.conseq {n base:Nat} {t:AT} {fr:Fr} {σ:H} {K K':Fr→H→Prop} (h:WT P G n base t fr σ K) (k:∀ fr σ,K fr σ→K' fr σ):WT P G n base t fr σ K' :=
 fun ops tr M hc I ρ w a hR hF hb S hg=>RTree.conseq (fun _ _=>Post.conseq k) (h ops tr M hc I ρ w a hR hF hb S hg)
variable {k:Bool}
theorem Qqp {base:Nat} {I I':Imm} {ρ ρ':Names} {σ σ':H} {w w':World} (hR:Rel G I ρ σ w) (hR':Rel G I' ρ' σ' w') (hb:base≤σ.o.length) (h:Step (if k then σ.o.length else base) I ρ σ w I' ρ' σ' w') {S:Sg} (hg:Guard S I ρ σ w) :
 Step base I ρ σ w I' ρ' σ' w'∧∃ S',(k=true→S.le S'∧Ek S w w')∧Guard S' I' ρ' σ' w':=by
 cases k with
 | true =>
   obtain ⟨S',h1,h2,h3⟩:=Quiet.ofStep (Nat.le_refl _) hR hR' h S hg
   exact ⟨h.weaken hR hb,S',fun _=>⟨h1,h2⟩,h3⟩
 | false=>exact ⟨h,_,fun h=>(nomatch h),Guard.start hR'⟩
theorem AOp.isApp_ok (h:op.isApp=true):∃ T sz by' str s x,op=.app T sz by' str s x:=by
 cases op <;> simp [AOp.isApp] at h
 exact ⟨_,_,_,_,_,_,rfl⟩
theorem QyD {base:Nat} {I:Imm} {ρ:Names} {σ:H} {w:World} {n:Nat} {fr:Fr} {a:Act} (hR:Rel G I ρ σ w) (hF:FR I ρ n fr a) (hb:base≤σ.o.length) {o:Oper} (hc:Qyi P M o=some op) (ha:op.isApp=true) {K:V→H→Prop} (h:evW base G fr σ K op) :
 WrOkQ P G base I ρ σ w (execOp a.eval o) K:=by
 obtain ⟨T,sz,by',str,s0,x0,rfl⟩:=AOp.isApp_ok ha
 unfold Qyi at hc
 unfold execOp
 split at hc
 case h_15 c ho =>
  split at hc <;> (try cases hc)
  rename_i b hcal
  simp only [ho]
  obtain ⟨callee,args,ts⟩:=c
  simp only at hcal hc
  subst hcal
  have hl:args=args.toList.toArray:=by simp
  have ht:ts=ts.toList.toArray:=by simp
  generalize args.toList=al at hl hc
  generalize ts.toList=tl at ht hc
  subst hl; subst ht
  unfold Qyh at hc
  split at hc <;> (try cases hc)
  ·rename_i s x t tx
   split at hc <;> (try cases hc)
   rename_i e sz' bytes z str' hel hsr
   obtain ⟨d,hd,hdd⟩:=QsO hsr
   cases hm:Qt3 M o.dst with
   | true=>simp [hm] at hc
   | false =>
     simp only [hm,Bool.false_eq_true,if_false,Option.some.injEq,AOp.app.injEq] at hc
     obtain ⟨rfl,rfl,rfl,rfl,rfl,rfl⟩:=hc
     have:=QyE (ty:=o.type) hR hF hb (QdH hel) hd hdd h
     obtain ⟨v,x,I',ρ',σ',w',h1,h2,h3,h4,h5,h6,h7⟩:=this
     exact ⟨v,x,I',ρ',σ',w',h1,h2,h3,h4,h5,by simpa [resolve,invoke,builtin] using h6,h7⟩
  ·split at hc <;> cases hc
  ·split at hc <;> cases hc
 all_goals exfalso
 all_goals first
  | (cases hc; done)
  | (simp at hc; done)
  | (unfold Qyg at hc; (repeat' split at hc) <;> cases hc; done)
  | ((repeat' split at hc) <;> cases hc; done)
  | ((repeat' split at hc) <;> simp at hc; done)
  | (obtain ⟨_,_,h'⟩:=Option.map_eq_some_iff.1 hc; cases h'; done)
theorem QzC {n:Nat} {I:Imm} {ρ:Names} {σ:H} {w:World} {fr:Fr} {a:Act} (hR:Rel G I ρ σ w) (hF:FR I ρ n fr a) {o:Oper} (hc:Qqc P o=some op) (hp:QLB M o=true) {K:V→Prop} (h:evR G fr σ K op.imm) :
 NextOk P I ρ (stays I) w (execOp a.eval o) K:=by
 unfold QLB at hp
 split at hp <;> (try cases hp)
 rename_i t x ho
 unfold Qqc at hc
 simp only [ho] at hc
 split at hc <;> (try cases hc)
 rename_i ag sz hag hsz
 unfold execOp
 simp only [ho]
 exact (Qz0 hR hF hsz hag h).next
theorem QyM {n base:Nat} {fr:Fr} {σ:H} {KF:Fr→H→Prop} (h:KF fr σ):WT P G n base .done fr σ KF:=by
 intro ops tr M hc I ρ w a hR hF hb S hg
 cases tr with
 | done=>exact ⟨I,ρ,fr,σ,hR,hF,Step.refl _ _ _ _ _,hb,h⟩
 | rd i t=>simp only [Zn] at hc; (repeat' split at hc) <;> cases hc
 | pu i t=>simp only [Zn] at hc; (repeat' split at hc) <;> cases hc
 | op i k t=>simp only [Zn] at hc; (repeat' split at hc) <;> cases hc
 | alt s t=>simp only [Zn] at hc; (repeat' split at hc) <;> cases hc
variable {B:Fr→Prop} {t:AT} {g:Option (Nat × Bool)}
theorem WT_rd {n base:Nat} {fr:Fr} {σ:H} {KF:Fr→H→Prop} {A:Fr→V→Prop} (h:Qbr g fr (fun fr=>evR G fr σ (A fr) op) B)
 (ka:∀ fr v,A fr v→WT P G n base t (fput fr d v) σ KF) (kb:∀ fr,B fr→WT P G n base t (fput fr d (.tup [])) σ KF):WT P G n base (.rd d g op t) fr σ KF:=by
 intro ops tr M hc I ρ w a hR hF hb S hg
 cases tr with
 | done=>simp only [Zn] at hc; (repeat' split at hc) <;> cases hc
 | alt s t=>simp only [Zn] at hc; (repeat' split at hc) <;> cases hc
 | rd i tr =>
   simp only [Zn] at hc
   split at hc <;> (try cases hc)
   rename_i o ho
   split at hc <;> (try cases hc)
   rename_i op' g' t' h1 h2 h3
   split at hc <;> cases hc
   rename_i hd
   rcases QdE hF h2 h with ⟨hw,fr',hF',h⟩ | ⟨hw,fr',hF',h⟩
   ·obtain ⟨v,x,g1,g2,g3⟩:=Qlq (S:=S) hR hF' h1 (.inl hg.all) h
    exact ⟨o,x,ho,.inl ⟨hw,g3⟩,ka _ _ g1 ops tr M h3 I ρ w _ hR (hF'.fput (QaR hd) g2) hb S hg⟩
   ·exact ⟨o,undef,ho,.inr ⟨hw,rfl⟩,kb _ h ops tr M h3 I ρ w _ hR (hF'.fput (QaR hd) (Qd4 _ _)) hb S hg⟩
 | pu i tr =>
   simp only [Zn] at hc
   split at hc <;> (try cases hc)
   rename_i o ho
   split at hc <;> (try cases hc)
   rename_i op' g' t' h1 h2 h3
   split at hc <;> (try cases hc)
   rename_i hd
   split at hc
   ·rename_i hp
    cases hc
    rcases QdE hF h2 h with ⟨hw,fr',hF',h⟩ | ⟨hw,fr',hF',h⟩
    ·obtain ⟨v,x,g1,g2,g3⟩:=Qlq (S:=stays I) hR hF' h1 (.inr hp) h
     exact ⟨o,x,ho,.inl ⟨hw,g3⟩,ka _ _ g1 ops tr M h3 I ρ w _ hR (hF'.fput (QaR hd) g2) hb S hg⟩
    ·exact ⟨o,undef,ho,.inr ⟨hw,rfl⟩,kb _ h ops tr M h3 I ρ w _ hR (hF'.fput (QaR hd) (Qd4 _ _)) hb S hg⟩
   ·split at hc <;> cases hc
    rename_i hp
    rcases QdE hF h2 h with ⟨hw,fr',hF',h⟩ | ⟨hw,fr',hF',h⟩
    ·obtain ⟨v,x,g1,g2,g3⟩:=QzC hR hF' h1 hp h
     exact ⟨o,x,ho,.inl ⟨hw,g3⟩,ka _ _ g1 ops tr M h3 I ρ w _ hR (hF'.fput (QaR hd) g2) hb S hg⟩
    ·exact ⟨o,undef,ho,.inr ⟨hw,rfl⟩,kb _ h ops tr M h3 I ρ w _ hR (hF'.fput (QaR hd) (Qd4 _ _)) hb S hg⟩
 | op i k tr =>
   simp only [Zn] at hc
   split at hc <;> (try cases hc)
   rename_i o ho
   split at hc <;> (try cases hc)
   rename_i g' t' h2 h3
   split at hc <;> (try cases hc)
   rename_i hd
   split at hc
   ·rename_i op' h1
    cases hc
    rcases QdE hF h2 h with ⟨hw,fr',hF',h⟩ | ⟨hw,fr',hF',h⟩
    ·obtain ⟨v,x,g1,g2,g3⟩:=Qlq (S:=QaS I ρ σ) hR hF' h1 (.inl (Sg.le.refl _)) h
     refine ⟨o,ho,?_⟩
     rw [if_pos hw]
     unfold op1
     rw [g3 w (Ek.refl _ w)]
     exact ⟨⟨S,stays I⟩,⟨Sg.le.refl _,Ek.refl _ w⟩,fun _=>⟨Sg.le.refl _,Ek.refl _ w⟩,ka _ _ g1 ops tr M h3 I ρ w _ hR (hF'.fput (QaR hd) g2) hb S hg⟩
    ·refine ⟨o,ho,?_⟩
     rw [if_neg (by simp [hw])]
     exact ⟨⟨S,stays I⟩,⟨Sg.le.refl _,Ek.refl _ w⟩,fun _=>⟨Sg.le.refl _,Ek.refl _ w⟩,kb _ h ops tr M h3 I ρ w _ hR (hF'.fput (QaR hd) (Qd4 _ _)) hb S hg⟩
   ·split at hc
    ·cases hc
    ·split at hc <;> cases hc
variable {A:Fr→V→H→Prop}
theorem WT_wr {n base:Nat} {fr:Fr} {σ:H} {KF:Fr→H→Prop} (h:Qbr g fr (fun fr=>evW (if k&&!op.isApp then σ.o.length else base) G fr σ (A fr) op) B)
 (ka:∀ fr v σ',A fr v σ'→WT P G n base t (fput fr d v) σ' KF) (kb:∀ fr,B fr→WT P G n base t (fput fr d (.tup [])) σ KF):WT P G n base (.wr k d g op t) fr σ KF:=by
 intro ops tr M hc I ρ w a hR hF hb S hg
 cases tr with
 | done=>simp only [Zn] at hc; (repeat' split at hc) <;> cases hc
 | rd i t=>simp only [Zn] at hc; (repeat' split at hc) <;> cases hc
 | pu i t=>simp only [Zn] at hc; (repeat' split at hc) <;> cases hc
 | alt s t=>simp only [Zn] at hc; (repeat' split at hc) <;> cases hc
 | op i k' tr =>
   simp only [Zn] at hc
   split at hc <;> (try cases hc)
   rename_i o ho
   split at hc <;> (try cases hc)
   rename_i g' t' h2 h3
   split at hc <;> (try cases hc)
   rename_i hd
   split at hc
   ·cases hc
   split at hc
   ·rename_i op' h1
    cases hc
    rcases QdE hF h2 h with ⟨hw,fr',hF',h⟩ | ⟨hw,fr',hF',h⟩
    ·cases hia:op.isApp with
     | true =>
       simp only [hia,Bool.not_true,Bool.and_false,Bool.false_eq_true,if_false] at h
       obtain ⟨v,x,I',ρ',σ',w',q1,q2,q3,q4,q5,q6,q7⟩:=QyD hR hF' hb h1 hia h
       obtain ⟨S',hle,hE,hg'⟩:=q7 S hg
       refine ⟨o,ho,?_⟩
       rw [if_pos hw]
       unfold op1
       have key:=RTree.conseq (fun _ _=>Post.after q4) (ka _ _ _ q1 ops tr M h3 I' ρ' w' _ q3 ((hF'.mono q4.imms q4.names).fput (QaR hd) q2) (by omega) S' hg')
       rcases q6 with q6 | ⟨q6,rfl⟩ <;> (rw [q6]; exact ⟨⟨S',stays I'⟩,q4.stays hR q3,fun _=>⟨hle,hE⟩,key⟩)
     | false =>
       simp only [hia,Bool.not_false,Bool.and_true] at h
       have hb':(if k then σ.o.length else base)≤σ.o.length:=by cases k <;> simp [hb]
       have hh:=QxZ hR hF' hb' h1 h
       refine Qw5 (base:=if k then σ.o.length else base) (n:=n) (fr:=fr') ho hw hh fun v x I' ρ' σ' w' q1 q2 q3 q4 q5=>?_
       obtain ⟨hS,S',hE,hg'⟩:=Qqp hR q3 hb q4 hg
       exact ⟨⟨S',stays I'⟩,q4.stays hR q3,hE,RTree.conseq (fun _ _=>Post.after hS) (ka _ _ _ q1 ops tr M h3 I' ρ' w' _ q3 ((hF'.mono q4.imms q4.names).fput (QaR hd) q2) (by omega) S' hg')⟩
    ·refine ⟨o,ho,?_⟩
     rw [if_neg (by simp [hw])]
     exact ⟨⟨S,stays I⟩,⟨Sg.le.refl _,Ek.refl _ w⟩,fun _=>⟨Sg.le.refl _,Ek.refl _ w⟩,kb _ h ops tr M h3 I ρ w _ hR (hF'.fput (QaR hd) (Qd4 _ _)) hb S hg⟩
   ·split at hc <;> cases hc
theorem WT_cl {n base:Nat} {args:List Arg} {fr:Fr} {σ:H} {KF:Fr→H→Prop} 
 (h:Qbr g fr (fun fr=>CV P G (if k then σ.o.length else base) (arg G fr f) (args.map (arg G fr)) σ (A fr)) B)
 (ka:∀ fr v σ',A fr v σ'→WT P G n base t (fput fr d v) σ' KF) (kb:∀ fr,B fr→WT P G n base t (fput fr d (.tup [])) σ KF):WT P G n base (.cl k d g f args t) fr σ KF:=by
 intro ops tr M hc I ρ w a hR hF hb S hg
 cases tr with
 | done=>simp only [Zn] at hc; (repeat' split at hc) <;> cases hc
 | rd i t=>simp only [Zn] at hc; (repeat' split at hc) <;> cases hc
 | pu i t=>simp only [Zn] at hc; (repeat' split at hc) <;> cases hc
 | alt s t=>simp only [Zn] at hc; (repeat' split at hc) <;> cases hc
 | op i k' tr =>
   simp only [Zn] at hc
   split at hc <;> (try cases hc)
   rename_i o ho
   split at hc <;> (try cases hc)
   rename_i g' t' h2 h3
   split at hc <;> (try cases hc)
   rename_i hd
   split at hc
   ·cases hc
   split at hc
   ·cases hc
   ·split at hc <;> cases hc
    rename_i f' args' h1
    rcases QdE hF h2 h with ⟨hw,fr',hF',h⟩ | ⟨hw,fr',hF',h⟩
    ·have hb':(if k then σ.o.length else base)≤σ.o.length:=by cases k <;> simp [hb]
     refine Qrc (base:=if k then σ.o.length else base) (n:=n) (fr:=fr') hR hF' hb' ho hw h1 h fun v x I' ρ' σ' w' q1 q2 q3 q4 q5=>?_
     obtain ⟨hS,S',hE,hg'⟩:=Qqp hR q3 hb q4 hg
     have hb'':base≤(if k then σ.o.length else base):=by cases k <;> simp [hb]
     exact ⟨⟨S',stays I'⟩,q4.stays hR q3,hE,RTree.conseq (fun _ _=>Post.after hS) (ka _ _ _ q1 ops tr M h3 I' ρ' w' _ q3 ((hF'.mono q4.imms q4.names).fput (QaR hd) q2) (by omega) S' hg')⟩
    ·refine ⟨o,ho,?_⟩
     rw [if_neg (by simp [hw])]
     exact ⟨⟨S,stays I⟩,⟨Sg.le.refl _,Ek.refl _ w⟩,fun _=>⟨Sg.le.refl _,Ek.refl _ w⟩,kb _ h ops tr M h3 I ρ w _ hR (hF'.fput (QaR hd) (Qd4 _ _)) hb S hg⟩
theorem QIK {n base:Nat} {fr:Fr} {σ:H} {KF:Fr→H→Prop} 
 (h:Qbr g fr (fun _=>False) B) (kb:∀ fr,B fr→WT P G n base t (fput fr d (.tup [])) σ KF):WT P G n base (.bad k d g t) fr σ KF:=by
 intro ops tr M hc I ρ w a hR hF hb S hg
 cases tr with
 | done=>simp only [Zn] at hc; (repeat' split at hc) <;> cases hc
 | rd i t=>simp only [Zn] at hc; (repeat' split at hc) <;> cases hc
 | pu i t=>simp only [Zn] at hc; (repeat' split at hc) <;> cases hc
 | alt s t=>simp only [Zn] at hc; (repeat' split at hc) <;> cases hc
 | op i k' tr =>
   simp only [Zn] at hc
   split at hc <;> (try cases hc)
   rename_i o ho
   split at hc <;> (try cases hc)
   rename_i g' t' h2 h3
   split at hc <;> (try cases hc)
   rename_i hd
   split at hc
   ·cases hc
   split at hc
   ·cases hc
   ·split at hc <;> cases hc
    rcases QdE hF h2 h with ⟨hw,fr',hF',h⟩ | ⟨hw,fr',hF',h⟩
    ·exact h.elim
    ·refine ⟨o,ho,?_⟩
     rw [if_neg (by simp [hw])]
     exact ⟨⟨S,stays I⟩,⟨Sg.le.refl _,Ek.refl _ w⟩,fun _=>⟨Sg.le.refl _,Ek.refl _ w⟩,kb _ h ops tr M h3 I ρ w _ hR (hF'.fput (QaR hd) (Qd4 _ _)) hb S hg⟩
theorem QIL {n base:Nat} {s:AT} {fr:Fr} {σ:H} {KF:Fr→H→Prop} (hs:WT P G n base s fr σ KF) (ht:WT P G n base t fr σ KF):WT P G n base (.alt s t) fr σ KF:=by
 intro ops tr M hc I ρ w a hR hF hb S hg
 cases tr with
 | done=>simp only [Zn] at hc; (repeat' split at hc) <;> cases hc
 | rd i t=>simp only [Zn] at hc; (repeat' split at hc) <;> cases hc
 | pu i t=>simp only [Zn] at hc; (repeat' split at hc) <;> cases hc
 | op i k t=>simp only [Zn] at hc; (repeat' split at hc) <;> cases hc
 | alt s' t' =>
   simp only [Zn] at hc
   split at hc <;> cases hc
   rename_i h1 h2
   exact ⟨hs ops s' M h1 I ρ w a hR hF hb S hg,ht ops t' M h2 I ρ w a hR hF hb S hg⟩
theorem QmS {n base:Nat}:∀ (t:AT) (fr:Fr) (σ:H) (K:Fr→H→Prop),wt P G n base t fr σ K→WT P G n base t fr σ K:=by
 intro t
 induction t with
 | done=>intro fr σ K h; exact QyM h
 | rd d g op t ih=>intro fr σ K h; exact WT_rd (A:=fun fr v=>wt P G n base t (fput fr d v) σ K) (B:=fun fr=>wt P G n base t (fput fr d (.tup [])) σ K) h (fun fr v hv=>ih _ _ _ hv) fun fr hv=>ih _ _ _ hv
 | wr k d g op t ih=>intro fr σ K h; exact WT_wr (A:=fun fr v σ=>wt P G n base t (fput fr d v) σ K) (B:=fun fr=>wt P G n base t (fput fr d (.tup [])) σ K) h (fun fr v σ' hv=>ih _ _ _ hv) fun fr hv=>ih _ _ _ hv
 | bad k d g t ih=>intro fr σ K h; exact QIK (B:=fun fr=>wt P G n base t (fput fr d (.tup [])) σ K) h fun fr hv=>ih _ _ _ hv
 | cl k d g f args t ih=>intro fr σ K h; exact WT_cl (A:=fun fr v σ=>WT P G n base t (fput fr d v) σ K) (B:=fun fr=>wt P G n base t (fput fr d (.tup [])) σ K) h (fun fr v σ' hv=>hv) fun fr hv=>ih _ _ _ hv
 | alt s t ihs iht=>intro fr σ K h; exact QIL (ihs _ _ _ h.1) (iht _ _ _ h.2)
end Go.Am
namespace Go.Am
open Go
inductive AC where
 | skip
 | reg (t:AT) (dead:List Nat)
 | seq (a b:AC)
 | cond (c:Arg) (a b:AC)
 | block (id:Nat) (a:AC)
 | loop (a:AC)
 | exit (id:Nat)
 | ret
 | bad
inductive AE where
 | nrm
 | ex (id:Nat)
 | ret
 deriving DecidableEq
def AE.toExit:AE→Exit
 | .nrm=>.normal
 | .ex id=>.exit id
 | .ret=>.ret
def QK6 (P:Program) (ops:Array Oper):Nat→Nat→Tr
 | _,0=>.done
 | k,n+1=>match ops[k]? with
   | some o=>if (Qqc P o).isSome then .rd k (QK6 P ops (k+1) n) else .op k false (QK6 P ops (k+1) n)
   | none=>.done
def QIc:List Tr→Tr
 | []=>.done
 | [t]=>t
 | t::r=>.alt t (QIc r)
def Qnd (n:Nat) (em:List Nat) (kd:Nat→Nat):Nat→Nat→Tr
 | 0,_=>.done
 | f+1,l =>
   match (QcD l 0 em).find? fun i=>kd i==0 || kd i==3 with
   | some i=>if kd i==3 then .pu i (Qnd n em kd f (QId n l i)) else .rd i (Qnd n em kd f (QId n l i))
   | none=>QIc ((QcD l 0 em).map fun j=>.op j (kd j != 2) (Qnd n em kd f (QId n l j)))
def XS (P:Program) (n:Nat) (M:Nat→Bool) (dd:Nat→List Nat):Code→Option AC
 | .skip=>some .skip
 | .region id ops draw =>
   if draw then
    let t:=Qnd ops.size (ops.toList.map Qnp) (fun j=>(dd (2 * id+1)).getD j 1) ops.size 0
    if P.follows .mixedOrders&&QLT ops (fun j=>(dd (2 * id+1)).getD j 1) t then (Zn P n M ops t).map fun t=>.reg t (dd (2 * id)) else none
   else
    let t:=QK6 P ops 0 ops.size
    if seqB 0 ops.size t then (Zn P n M ops t).map fun t=>.reg t (dd (2 * id)) else none
 | .seq a b=>match XS P n M dd a,XS P n M dd b with
   | some a,some b=>some (.seq a b)
   | _,_=>none
 | .cond c a b=>match XS P n M dd a,XS P n M dd b with
   | some a,some b=>some (.cond (Qa c) a b)
   | _,_=>none
 | .block id a=>(XS P n M dd a).map (.block id)
 | .loop a=>(XS P n M dd a).map .loop
 | .exit id=>some (.exit id)
 | .ret=>some .ret
 | .label _=>some .skip
 | .scope a=>(XS P n M dd a).map fun t=>.cond (.c (.bool true)) t .bad
 | _=>some .bad
def fdel (fr:Fr) (dead:List Nat):Fr:=fr.filter fun p=>!dead.contains p.1
theorem QpB (fr:Fr) (dead:List Nat) (t:Nat):Qd (fdel fr dead) t=if dead.contains t then .any else Qd fr t:=by
 induction fr with
 | nil=>simp [fdel,Qd]
 | cons p r ih =>
   obtain ⟨i,v⟩:=p
   simp only [fdel,List.filter_cons] at ih ⊢
   cases h:dead.contains i with
   | true =>
     simp only [Bool.not_true,Bool.false_eq_true,if_false,ih,Qd]
     by_cases hi:i=t
     ·subst hi; rw [if_pos h,if_pos h]
     ·rw [if_neg hi]
   | false =>
     simp only [Bool.not_false,if_true,Qd,ih]
     by_cases hi:i=t
     ·subst hi; simp only [h]; simp
     ·rw [if_neg hi,if_neg hi]
theorem FR.fdel {I ρ n fr a} (h:FR I ρ n fr a) (dead:List Nat):FR I ρ n (Am.fdel fr dead) a :=
 ⟨h.defers,h.size,fun t=>by rw [QpB]; split; exact .any _ _; exact h.vals t⟩
variable (P:Program) (G:Nat→Option V)
def PostC (n base:Nat) (I:Imm) (ρ:Names) (σ:H) (w:World) (Q:AE→Fr→H→Prop) (e:Exit) (a':Act) (w':World):Prop :=
 ∃ ae I' ρ' fr' σ',e=AE.toExit ae∧Rel G I' ρ' σ' w'∧FR I' ρ' n fr' a'∧Step base I ρ σ w I' ρ' σ' w'∧base≤σ'.o.length∧Q ae fr' σ'
def W (n base:Nat) (c:AC) (fr:Fr) (σ:H) (Q:AE→Fr→H→Prop):Prop :=
 ∀ (code:Code) (M:Nat→Bool) (dd:Nat→List Nat),XS P n M dd code=some c→∀ (I:Imm) (ρ:Names) (w:World) (a:Act),Rel G I ρ σ w→FR I ρ n fr a→base≤σ.o.length →
   ∀ F,Mode code F→∀ m,code.wpIn F m P (PostC G n base I ρ σ w Q) a w
variable {P G} {Q:AE→Fr→H→Prop}
theorem PostC.conseq {n base I ρ σ w} {Q':AE→Fr→H→Prop} (k:∀ e fr σ,Q e fr σ→Q' e fr σ) {e a' w'} (h:PostC G n base I ρ σ w Q e a' w'):PostC G n base I ρ σ w Q' e a' w':=by
 obtain ⟨ae,I',ρ',fr',σ',h0,h1,h2,h3,h4,h5⟩:=h
 exact ⟨ae,I',ρ',fr',σ',h0,h1,h2,h3,h4,k _ _ _ h5⟩
theorem PostC.after {n base I ρ σ w I1 ρ1 σ1 w1} (hS:Step base I ρ σ w I1 ρ1 σ1 w1) {e a' w'} (h:PostC G n base I1 ρ1 σ1 w1 Q e a' w'):PostC G n base I ρ σ w Q e a' w':=by
 obtain ⟨ae,I',ρ',fr',σ',h0,h1,h2,h3,h4,h5⟩:=h
 exact ⟨ae,I',ρ',fr',σ',h0,h1,h2,hS.trans h3,h4,h5⟩
theorem W.conseq {n base c fr σ} {Q Q':AE→Fr→H→Prop} (h:W P G n base c fr σ Q) (k:∀ e fr σ,Q e fr σ→Q' e fr σ):W P G n base c fr σ Q' :=
 fun code M dd hc I ρ w a hR hF hb F hM mm=>wpIn_mono (h code M dd hc I ρ w a hR hF hb F hM mm) fun _ _ _=>PostC.conseq k
theorem QIG {n base fr σ} (h:Q .nrm fr σ):W P G n base .skip fr σ Q:=by
 intro code M dd hc I ρ w a hR hF hb F hM mm
 cases code with
 | skip=>exact wpIn_skip ⟨.nrm,I,ρ,fr,σ,rfl,hR,hF,Step.refl _ _ _ _ _,hb,h⟩
 | label l=>exact wpIn_label ⟨.nrm,I,ρ,fr,σ,rfl,hR,hF,Step.refl _ _ _ _ _,hb,h⟩
 | region id ops draw=>simp only [XS] at hc; split at hc <;> split at hc <;> (try cases hc) <;> (obtain ⟨t,_,h⟩:=Option.map_eq_some_iff.1 hc; cases h)
 | seq a b=>simp only [XS] at hc; split at hc <;> cases hc
 | cond c a b=>simp only [XS] at hc; split at hc <;> cases hc
 | block id a=>simp only [XS] at hc; obtain ⟨t,_,h⟩:=Option.map_eq_some_iff.1 hc; cases h
 | loop a=>simp only [XS] at hc; obtain ⟨t,_,h⟩:=Option.map_eq_some_iff.1 hc; cases h
 | _=>simp [XS] at hc
theorem QMC {n base t dead fr σ} (h:WT P G n base t fr σ (fun fr σ=>Q .nrm (fdel fr dead) σ)):W P G n base (.reg t dead) fr σ Q:=by
 intro code M dd hc I ρ w a hR hF hb F hM mm
 cases code with
 | region id ops draw =>
   simp only [XS] at hc
   have post:∀ (w0:World),Ex w w0→∀ tr,Zn P n M ops tr=some t→RTree P ops (PostC G n base I ρ σ w Q .normal) tr ⟨QaS I ρ σ,stays I⟩ a w0:=fun w0 hx tr htr=>by
    refine RTree.conseq (fun a' w' hp=>?_) (h ops tr M htr I ρ w0 a (hR.ex hx) hF hb _ (Guard.start (hR.ex hx)))
    obtain ⟨I',ρ',fr',σ',h1,h2,h3,h4,h5⟩:=hp
    exact ⟨.nrm,I',ρ',Am.fdel fr' dead,σ',rfl,h1,h2.fdel dead,(Step.of_ex hx).trans h3,h4,h5⟩
   split at hc
   ·split at hc
    ·rename_i hd hB
     obtain ⟨t',ht,h'⟩:=Option.map_eq_some_iff.1 hc
     cases h'
     simp only [Bool.and_eq_true] at hB
     rw [hd]
     rcases hM with rfl | ⟨hcl,l,rfl⟩
     ·exact wpIn_wide.2 (QKu hB.1 (Qtx hB.2) (post w.drew ⟨rfl,rfl,rfl,Nat.le_refl _,fun _ _=>rfl⟩ _ ht))
     ·exact QwG hB.1 hcl (Qtx hB.2) (post w.drew ⟨rfl,rfl,rfl,Nat.le_refl _,fun _ _=>rfl⟩ _ ht)
    ·cases hc
   ·split at hc
    ·rename_i hd hB
     obtain ⟨t',ht,h'⟩:=Option.map_eq_some_iff.1 hc
     cases h'
     have:draw=false:=by simpa using hd
     rw [this]
     rcases hM with rfl | ⟨hcl,l,rfl⟩
     ·exact wpIn_wide.2 (QtO hB (post w (Ex.refl w) _ ht))
     ·exact QoS hcl hB (post w (Ex.refl w) _ ht)
    ·cases hc
 | seq a b=>simp only [XS] at hc; split at hc <;> cases hc
 | cond c a b=>simp only [XS] at hc; split at hc <;> cases hc
 | block id a=>simp only [XS] at hc; obtain ⟨t,_,h⟩:=Option.map_eq_some_iff.1 hc; cases h
 | loop a=>simp only [XS] at hc; obtain ⟨t,_,h⟩:=Option.map_eq_some_iff.1 hc; cases h
 | _=>simp [XS] at hc
def seqK (P:Program) (G:Nat→Option V) (n base:Nat) (b:AC) (Q:AE→Fr→H→Prop):AE→Fr→H→Prop
 | .nrm,fr,σ=>W P G n base b fr σ Q
 | e,fr,σ=>Q e fr σ
theorem W_seq {n base x y fr σ} (h:W P G n base x fr σ (seqK P G n base y Q)):W P G n base (.seq x y) fr σ Q:=by
 intro code M dd hc I ρ w a hR hF hb F hM mm
 cases code with
 | seq x' y' =>
   simp only [XS] at hc
   split at hc <;> cases hc
   rename_i h1 h2
   refine wpIn_seq (wpIn_mono (h x' M dd h1 I ρ w a hR hF hb F (hM.sub fun e=>by simp only [QtC,Bool.and_eq_true] at e; exact e.1) mm) fun e a' w' hp=>?_)
   obtain ⟨ae,I',ρ',fr',σ',rfl,g1,g2,g3,g4,g5⟩:=hp
   cases ae with
   | nrm=>exact wpIn_mono (g5 y' M dd h2 I' ρ' w' a' g1 g2 g4 F (hM.sub fun e=>by simp only [QtC,Bool.and_eq_true] at e; exact e.2) mm) fun _ _ _=>PostC.after g3
   | ex id=>exact ⟨.ex id,I',ρ',fr',σ',rfl,g1,g2,g3,g4,g5⟩
   | ret=>exact ⟨.ret,I',ρ',fr',σ',rfl,g1,g2,g3,g4,g5⟩
 | region id ops draw=>simp only [XS] at hc; split at hc <;> split at hc <;> (try cases hc) <;> (obtain ⟨t,_,h⟩:=Option.map_eq_some_iff.1 hc; cases h)
 | cond c a b=>simp only [XS] at hc; split at hc <;> cases hc
 | block id a=>simp only [XS] at hc; obtain ⟨t,_,h⟩:=Option.map_eq_some_iff.1 hc; cases h
 | loop a=>simp only [XS] at hc; obtain ⟨t,_,h⟩:=Option.map_eq_some_iff.1 hc; cases h
 | _=>simp [XS] at hc
def condK (c:V) (A B:Prop):Prop :=
 match c with
 | .bool t=>(t=true→A)∧(t=false→B)
 | _=>False
theorem QIJ {n base c x y fr σ} (h:condK (arg G fr c) (W P G n base x fr σ Q) (W P G n base y fr σ Q)):W P G n base (.cond c x y) fr σ Q:=by
 intro code M dd hc I ρ w a hR hF hb F hM mm
 cases code with
 | cond c' x' y' =>
   simp only [XS] at hc
   split at hc <;> cases hc
   rename_i h1 h2
   have hv:=QF hR hF c'
   unfold condK at h
   split at h <;> (try exact h.elim)
   rename_i t ht
   rw [ht] at hv
   generalize hx:a.eval c'=v at hv
   cases hv
   exact wpIn_cond_split hx (fun ht=>h.1 ht x' M dd h1 I ρ w a hR hF hb F (hM.sub fun e=>by simp only [QtC,Bool.and_eq_true] at e; exact e.1) mm) (fun ht=>h.2 ht y' M dd h2 I ρ w a hR hF hb F (hM.sub fun e=>by simp only [QtC,Bool.and_eq_true] at e; exact e.2) mm)
 | scope x' =>
   simp only [XS] at hc
   obtain ⟨t,h1,h'⟩:=Option.map_eq_some_iff.1 hc
   cases h'
   have h:=(show (true=true→_)∧(true=false→_) from h).1 rfl
   rcases hM with rfl | ⟨hcl,_⟩
   ·refine wpIn_wide.2 (wp_scope_straight (wpIn_wide.1 (wpIn_mono (h x' M dd h1 I ρ w a hR hF hb _ (.inl rfl) mm) fun e a' w' hp=>?_)))
    have he:∃ ae,e=AE.toExit ae:=hp.imp fun _ ⟨_,_,_,_,h,_⟩=>h
    obtain ⟨ae,rfl⟩:=he
    cases ae <;> exact hp
   ·simp [QtC] at hcl
 | region id ops draw=>simp only [XS] at hc; split at hc <;> split at hc <;> (try cases hc) <;> (obtain ⟨t,_,h⟩:=Option.map_eq_some_iff.1 hc; cases h)
 | seq a b=>simp only [XS] at hc; split at hc <;> cases hc
 | block id a=>simp only [XS] at hc; obtain ⟨t,_,h⟩:=Option.map_eq_some_iff.1 hc; cases h
 | loop a=>simp only [XS] at hc; obtain ⟨t,_,h⟩:=Option.map_eq_some_iff.1 hc; cases h
 | _=>simp [XS] at hc
def QA0 (id:Nat) (Q:AE→Fr→H→Prop):AE→Fr→H→Prop
 | .ex id',fr,σ=>if id'=id then Q .nrm fr σ else Q (.ex id') fr σ
 | e,fr,σ=>Q e fr σ
theorem QyL {n base id x fr σ} (h:W P G n base x fr σ (QA0 id Q)):W P G n base (.block id x) fr σ Q:=by
 intro code M dd hc I ρ w a hR hF hb F hM mm
 cases code with
 | block id' x' =>
   simp only [XS] at hc
   obtain ⟨t,h1,h'⟩:=Option.map_eq_some_iff.1 hc
   cases h'
   refine wpIn_block (wpIn_mono (h x' M dd h1 I ρ w a hR hF hb F (hM.sub fun e=>e) mm) fun e a' w' hp=>?_)
   obtain ⟨ae,I',ρ',fr',σ',rfl,g1,g2,g3,g4,g5⟩:=hp
   cases ae with
   | nrm=>exact ⟨.nrm,I',ρ',fr',σ',rfl,g1,g2,g3,g4,g5⟩
   | ret=>exact ⟨.ret,I',ρ',fr',σ',rfl,g1,g2,g3,g4,g5⟩
   | ex id' =>
     simp only [QA0] at g5
     simp only [AE.toExit,Exit.inBlock]
     split
     ·rename_i he; rw [if_pos he] at g5; exact ⟨.nrm,I',ρ',fr',σ',rfl,g1,g2,g3,g4,g5⟩
     ·rename_i he; rw [if_neg he] at g5; exact ⟨.ex id',I',ρ',fr',σ',rfl,g1,g2,g3,g4,g5⟩
 | region id ops draw=>simp only [XS] at hc; split at hc <;> split at hc <;> (try cases hc) <;> (obtain ⟨t,_,h⟩:=Option.map_eq_some_iff.1 hc; cases h)
 | seq a b=>simp only [XS] at hc; split at hc <;> cases hc
 | cond c a b=>simp only [XS] at hc; split at hc <;> cases hc
 | loop a=>simp only [XS] at hc; obtain ⟨t,_,h⟩:=Option.map_eq_some_iff.1 hc; cases h
 | _=>simp [XS] at hc
theorem QII {n base id fr σ} (h:Q (.ex id) fr σ):W P G n base (.exit id) fr σ Q:=by
 intro code M dd hc I ρ w a hR hF hb F hM mm
 cases code with
 | exit id'=>simp only [XS,Option.some.injEq,AC.exit.injEq] at hc; subst hc; exact wpIn_exit ⟨.ex id',I,ρ,fr,σ,rfl,hR,hF,Step.refl _ _ _ _ _,hb,h⟩
 | region id ops draw=>simp only [XS] at hc; split at hc <;> split at hc <;> (try cases hc) <;> (obtain ⟨t,_,h⟩:=Option.map_eq_some_iff.1 hc; cases h)
 | seq a b=>simp only [XS] at hc; split at hc <;> cases hc
 | cond c a b=>simp only [XS] at hc; split at hc <;> cases hc
 | block id a=>simp only [XS] at hc; obtain ⟨t,_,h⟩:=Option.map_eq_some_iff.1 hc; cases h
 | loop a=>simp only [XS] at hc; obtain ⟨t,_,h⟩:=Option.map_eq_some_iff.1 hc; cases h
 | _=>simp [XS] at hc
theorem W_ret {n base fr σ} (h:Q .ret fr σ):W P G n base .ret fr σ Q:=by
 intro code M dd hc I ρ w a hR hF hb F hM mm
 cases code with
 | ret=>exact wpIn_ret ⟨.ret,I,ρ,fr,σ,rfl,hR,hF,Step.refl _ _ _ _ _,hb,h⟩
 | region id ops draw=>simp only [XS] at hc; split at hc <;> split at hc <;> (try cases hc) <;> (obtain ⟨t,_,h⟩:=Option.map_eq_some_iff.1 hc; cases h)
 | seq a b=>simp only [XS] at hc; split at hc <;> cases hc
 | cond c a b=>simp only [XS] at hc; split at hc <;> cases hc
 | block id a=>simp only [XS] at hc; obtain ⟨t,_,h⟩:=Option.map_eq_some_iff.1 hc; cases h
 | loop a=>simp only [XS] at hc; obtain ⟨t,_,h⟩:=Option.map_eq_some_iff.1 hc; cases h
 | _=>simp [XS] at hc
variable {p:Nat→Prop}
theorem Qpm:∀ k,p k→∃ m,p m∧∀ j,p j→m≤j:=by
 intro k
 induction k using Nat.strongRecOn with
 | _ k ih =>
   intro h
   by_cases hj:∃ j,j<k∧p j
   ·obtain ⟨j,h1,h2⟩:=hj
    exact ih j h1 h2
   ·exact ⟨k,h,fun j hp=>Nat.le_of_not_lt fun hlt=>hj ⟨j,hlt,hp⟩⟩
open Classical in
noncomputable def leastOf (p:Nat→Prop):Nat:=if h:∃ m,p m∧∀ j,p j→m≤j then Classical.choose h else 0
theorem leastOf_spec (h:∃ k,p k):p (leastOf p)∧∀ j,p j→leastOf p≤j:=by
 obtain ⟨k,hk⟩:=h
 have:=Qpm k hk
 unfold leastOf
 rw [dif_pos this]
 exact Classical.choose_spec this
theorem QIH {n base x} {α:Type} (S:α→Fr) (T:α→H) (μ:α→Nat) (Inv:α→Prop)
 (round:∀ s,Inv s→W P G n base x (S s) (T s) fun e fr σ=>match e with
  | .nrm=>∃ s',Inv s'∧μ s'<μ s∧(∀ I ρ a,FR I ρ n fr a→FR I ρ n (S s') a)∧σ=T s'
  | e=>Q e fr σ) (s0:α) (h0:Inv s0):W P G n base (.loop x) (S s0) (T s0) Q:=by
 intro code M dd hc I ρ w a hR hF hb F hM mm
 cases code with
 | loop x' =>
   simp only [XS] at hc
   obtain ⟨t,h1,h'⟩:=Option.map_eq_some_iff.1 hc
   cases h'
   let R:Act→World→α→Prop:=fun a1 w1 s1=>∃ I1 ρ1,Inv s1∧Rel G I1 ρ1 (T s1) w1∧FR I1 ρ1 n (S s1) a1∧base≤(T s1).o.length∧Step base I ρ (T s0) w I1 ρ1 (T s1) w1
   let m:Act→World→Nat:=fun a1 w1=>leastOf fun k=>∃ s1,μ s1=k∧R a1 w1 s1
   refine wpIn_loop (fun a1 w1=>∃ s1,R a1 w1 s1) m ⟨s0,I,ρ,h0,hR,hF,hb,Step.refl _ _ _ _ _⟩ fun a1 w1 hs=>?_
   obtain ⟨s1,hs1⟩:=hs
   obtain ⟨⟨s2,hm,hs2⟩,_⟩:=leastOf_spec (p:=fun k=>∃ s1,μ s1=k∧R a1 w1 s1) ⟨μ s1,s1,rfl,hs1⟩
   have hm:μ s2=m a1 w1:=hm
   obtain ⟨I1,ρ1,g0,g1,g2,g3,g4⟩:=hs2
   refine wpIn_mono (round s2 g0 x' M dd h1 I1 ρ1 w1 a1 g1 g2 g3 F (hM.sub fun e=>e) mm) fun e a' w' hp=>?_
   obtain ⟨ae,I',ρ',fr',σ',rfl,q1,q2,q3,q4,q5⟩:=hp
   cases ae with
   | nrm =>
     obtain ⟨s',h2,h3,h4,h5⟩:=q5
     subst h5
     have hr:R a' w' s':=⟨I',ρ',h2,q1,h4 _ _ _ q2,q4,g4.trans q3⟩
     refine ⟨⟨s',hr⟩,?_⟩
     have:=(leastOf_spec (p:=fun k=>∃ s1,μ s1=k∧R a' w' s1) ⟨μ s',s',rfl,hr⟩).2 (μ s') ⟨s',rfl,hr⟩
     have:m a' w'≤μ s':=this
     omega
   | ex id=>exact ⟨.ex id,I',ρ',fr',σ',rfl,q1,q2,g4.trans q3,q4,q5⟩
   | ret=>exact ⟨.ret,I',ρ',fr',σ',rfl,q1,q2,g4.trans q3,q4,q5⟩
 | region id ops draw=>simp only [XS] at hc; split at hc <;> split at hc <;> (try cases hc) <;> (obtain ⟨t,_,h⟩:=Option.map_eq_some_iff.1 hc; cases h)
 | seq a b=>simp only [XS] at hc; split at hc <;> cases hc
 | cond c a b=>simp only [XS] at hc; split at hc <;> cases hc
 | block id a=>simp only [XS] at hc; obtain ⟨t,_,h⟩:=Option.map_eq_some_iff.1 hc; cases h
 | _=>simp [XS] at hc
end Go.Am
namespace Go.Am
open Go
variable {P:Program} {G:Nat→Option V}
inductive RV where
 | tmp (t:Nat)
 | cell (t:Nat) (ag:Bool) (sz:Nat)
def Qjg (P:Program):ResultVar→Option RV
 | .tmp t=>some (.tmp t)
 | .cell a t=>match Qav P t,szOf P t with
   | some ag,some sz=>some (.cell a ag sz)
   | _,_=>none
structure AF where
 n:Nat
 res:List RV
 body:AC
def QA (P:Program) (M:Nat→Bool) (dd:Nat→List Nat) (f:FuncId):Option AF :=
 match P.funcs[f]? with
 | some fn=>match fn.body,fn.results.toList.mapM (Qjg P) with
   | some c,some rs=>(XS P fn.ntmps M dd c).map fun b=>⟨fn.ntmps,rs,b⟩
   | _,_=>none
 | none=>none
def Qq7 (G:Nat→Option V) (fr:Fr) (σ:H):List RV→(List V→Prop)→Prop
 | [],K=>K []
 | .tmp t::r,K=>Qq7 G fr σ r fun l=>K (Qd fr t::l)
 | .cell t ag sz::r,K=>evR G fr σ (fun v=>Qq7 G fr σ r fun l=>K (v::l)) (.load ag sz (.t t))
def QhU:List V→V
 | [v]=>v
 | l=>.tup l
def QzR:Nat→List V→Fr
 | _,[]=>[]
 | k,v::l=>(k,v)::QzR (k+1) l
theorem QxY (l:List V):∀ (k t:Nat),Qd (QzR k l) t=if k≤t then l.getD (t - k) .any else .any:=by
 induction l with
 | nil=>intro k t; simp [QzR,Qd]
 | cons v l ih =>
   intro k t
   simp only [QzR,Qd,ih]
   by_cases h:k=t
   ·subst h; simp
   ·rw [if_neg h]
    by_cases h2:k+1≤t
    ·rw [if_pos h2,if_pos (by omega)]
     obtain ⟨d,rfl⟩:∃ d,t=k+1+d:=⟨t - (k+1),by omega⟩
     simp [show k+1+d - (k+1)=d from by omega,show k+1+d - k=d+1 from by omega]
    ·rw [if_neg h2,if_neg (by omega)]
def resM (tmps:Array Value):ResultVar→Sem Value
 | .tmp t=>pure (tmps.getD t undef)
 | .cell q t=>do loadVar t (← asAddr (tmps.getD q undef))
theorem Qq6 {I:Imm} {ρ:Names} {σ:H} {w:World} {n:Nat} {fr:Fr} {a:Act} (hR:Rel G I ρ σ w) (hF:FR I ρ n fr a):∀ (rs:List ResultVar) (qs:List RV),rs.mapM (Qjg P)=some qs→∀ (K:List V→Prop),Qq7 G fr σ qs K →
 ∃ l xs,K l∧Cells I ρ l xs∧(rs.mapM (resM a.tmps)).run P w=.ok xs.toList w
 | [],qs,hq,K,h=>by
   simp at hq; subst hq
   exact ⟨[],#[],h,Cells.nil,rfl⟩
 | r::rs,qs,hq,K,h=>by
   simp only [List.mapM_cons] at hq
   cases hr:Qjg P r with
   | none=>simp [hr] at hq
   | some q =>
     cases hrs:rs.mapM (Qjg P) with
     | none=>simp [hr,hrs] at hq
     | some qs' =>
       simp [hr,hrs] at hq
       subst hq
       cases r with
       | tmp t =>
         simp only [Qjg,Option.some.injEq] at hr
         subst hr
         obtain ⟨l,xs,h1,h2,h3⟩:=Qq6 hR hF rs qs' hrs _ h
         have hc:Cells I ρ [Qd fr t] #[a.tmps.getD t undef]:=⟨rfl,fun j v x g1 g2=>by cases j <;> simp at g1 g2; subst g1; subst g2; have:=hF.vals t; simpa using this⟩
         refine ⟨_,#[a.tmps.getD t undef]++xs,h1,hc.append h2,?_⟩
         simp only [List.mapM_cons,Sem.run_bind,Sem.run_pure,Result.andThen,resM]
         rw [h3]
         simp
       | cell b t =>
         simp only [Qjg] at hr
         split at hr <;> (try cases hr)
         rename_i ag sz hag hsz
         have:=Qxw (P:=P) hR hF hsz hag (x:=.tmp b) (K:=fun v=>Qq7 G fr σ qs' fun l=>K (v::l)) h
         obtain ⟨v,x,g1,g2,g3⟩:=this
         obtain ⟨l,xs,h1,h2,h3⟩:=Qq6 hR hF rs qs' hrs _ g1
         have hc:Cells I ρ [v] #[x]:=⟨rfl,fun j v x q1 q2=>by cases j <;> simp at q1 q2; subst q1; subst q2; exact g2⟩
         refine ⟨_,#[x]++xs,h1,hc.append h2,?_⟩
         have hload:=g3 w (Ek.refl _ w)
         have hx:∃ ad,a.tmps.getD b undef=.pointer (some ad):=by
          cases hh:a.tmps.getD b undef with
          | pointer ad=>cases ad with
            | some ad=>exact ⟨ad,rfl⟩
            | none =>
              exfalso
              have:a.eval (.tmp b)=.pointer none:=hh
              rw [this] at hload
              simp [Instr.loadAt,Instr.sureAddr] at hload
          | _ =>
            exfalso
            have:a.eval (.tmp b)=_:=hh
            rw [this] at hload
            simp [Instr.loadAt,Instr.sureAddr] at hload
         obtain ⟨ad,had⟩:=hx
         have hl2:(loadVar t ad).run P w=.ok x w:=by
          have:a.eval (.tmp b)=.pointer (some ad):=had
          rw [this] at hload
          simpa [Instr.loadAt,Instr.sureAddr] using hload
         have hA:(asAddr (a.tmps.getD b undef)).run P w=.ok ad w:=by rw [had]; rfl
         simp only [List.mapM_cons,Sem.run_bind,Sem.run_pure,Result.andThen,resM,hA,hl2]
         rw [h3]
         simp
variable {f:FuncId}
theorem QIN {M:Nat→Bool} {dd:Nat→List Nat} {A:AF} (hA:QA P M dd f=some A) {base:Nat} {args:List V} {σ:H} {Q:V→H→Prop} (hn:args.length≤A.n)
 (h:W P G A.n base A.body (QzR 0 args) σ fun e fr σ'=>match e with
  | .ex _=>False
  | _=>Qq7 G fr σ' A.res fun l=>Q (QhU l) σ'):C P G base f args σ Q:=by
 intro I ρ w xs hR hb hc
 unfold QA at hA
 split at hA <;> (try cases hA)
 rename_i fn hfn
 split at hA <;> (try cases hA)
 rename_i c rs hbody hres
 obtain ⟨b,hcb,rfl⟩:=Option.map_eq_some_iff.1 hA
 simp only at hn h
 refine calls_of_wp hfn hbody ?_
 have hsz:xs.size≤fn.ntmps:=by have:=hc.1; omega
 have hF:FR I ρ fn.ntmps (QzR 0 args) { tmps:=xs++Array.replicate (fn.ntmps - xs.size) undef,defers:=[] }:=by
  refine ⟨rfl,by simp; omega,fun t=>?_⟩
  rw [QxY,if_pos (Nat.zero_le _)]
  simp only [Nat.sub_zero]
  by_cases ht:t<args.length
  ·have htx:t<xs.size:=by have:=hc.1; omega
   have:=hc.2 t _ xs[t] (QbQ ht) (Array.getElem?_eq_getElem htx)
   simpa [Array.getElem?_append,htx] using this
  ·rw [List.getD_eq_getElem?_getD,List.getElem?_eq_none (by omega)]
   exact .any _ _
 refine wp_mono (wpIn_wide.1 (h c M dd hcb I ρ w _ hR hF hb Fence.wide (.inl rfl) 0)) fun e a' w' hp=>?_
 obtain ⟨ae,I',ρ',fr',σ',rfl,q1,q2,q3,q4,q5⟩:=hp
 have fin:(Qq7 G fr' σ' rs fun l=>Q (QhU l) σ')→a'.defers=[]∧∃ v,(results fn a'.tmps).run P w'=.ok v w'∧∃ v' x I' ρ' σ',Ending.returned v=.returned x∧VR I' ρ' v' x∧Rel G I' ρ' σ' w'∧Step base I ρ σ w I' ρ' σ' w'∧base≤σ'.o.length∧Q v' σ':=fun hq=>by
  obtain ⟨l,ys,g1,g2,g3⟩:=Qq6 (P:=P) q1 q2 fn.results.toList rs hres _ hq
  refine ⟨q2.defers,if h:ys.size=1 then ys[0] else .tuple ys,?_,QhU l,_,I',ρ',σ',rfl,?_,q1,q3,q4,g1⟩
  ·unfold results
   rw [Array.mapM_eq_mapM_toList]
   simp only [Sem.run_bind,Sem.run_map]
   have hfun:(fun (r:ResultVar)=>(match r with | .tmp t=>pure (a'.tmps.getD t undef) | .cell q t=>do loadVar t (← asAddr (a'.tmps.getD q undef)):Sem Value))=resM a'.tmps:=by funext r; cases r <;> rfl
   have g3':(fn.results.toList.mapM (fun (r:ResultVar)=>(match r with | .tmp t=>pure (a'.tmps.getD t undef) | .cell q t=>do loadVar t (← asAddr (a'.tmps.getD q undef)):Sem Value))).run P w'=.ok ys.toList w':=by rw [hfun]; exact g3
   erw [g3']
   simp [Result.andThen]
  ·by_cases h1:ys.size=1
   ·rw [dif_pos h1]
    have hl:=g2.1
    match l,hl with
    | [v],hl=>exact g2.2 0 v ys[0] rfl (Array.getElem?_eq_getElem (by omega))
    | [],hl=>simp at hl; omega
    | _::_::_,hl=>simp at hl; omega
   ·rw [dif_neg h1]
    have hl:=g2.1
    have:QhU l=.tup l:=by
     match l,hl with
     | [v],hl=>simp at hl; omega
     | [],hl=>rfl
     | _::_::_,hl=>rfl
    rw [this]
    exact .tup _ _ _ g2.1 g2.2
 cases ae with
 | nrm=>exact fin q5
 | ret=>exact fin q5
 | ex id=>exact q5.elim
def Pure (P:Program) (G:Nat→Option V) (f:FuncId) (args:List V) (Q:V→Prop):Prop:=∀ t,C P G 0 f args ⟨t,[]⟩ fun v _=>Qf v=true∧Q v
theorem C_pure {args:List V} {Q:V→Prop} (h:Pure P G f args Q) (hn:Qc args=true) {base:Nat} {σ:H} {R:V→H→Prop} (k:∀ v,Q v→R v σ):C P G base f args σ R:=by
 intro I ρ w xs hR hb hc
 have hR0:Rel G I noNames ⟨σ.t,[]⟩ w:=⟨fun n ob h=>(by simp at h),fun n v l h=>(by cases h),fun n m b h=>(by simp [blk] at h),hR.imm,fun n b h=>(by simp [blk] at h),hR.globs⟩
 have hc0:Cells I noNames args xs:=⟨hc.1,fun j v x h1 h2=>(hc.2 j v x h1 h2).noNames (X4 hn v (List.mem_of_getElem? h1))⟩
 refine (h σ.t I noNames w xs hR0 (Nat.zero_le _) hc0).mono fun e w' ⟨v,x,I',ρ',σ',h1,h2,h3,h4,h5,h6,h7⟩=>?_
 have hold:∀ b,b<w.heap.size→w'.heap[b]?=w.heap[b]?:=fun b hlt=>h4.keep b hlt fun n _=>by simp [blk]
 have himm:∀ b o,I b o=none→I' b o≠none→w.heap.size≤b:=fun b o hI hI'=>(h4.immed b o hI hI').elim id fun ⟨m,_,hm⟩=>by simp [blk] at hm
 refine ⟨v,x,I',ρ,σ,h1,(h2.noNames h6).mono (Imm.le.refl _) (fun _ _ _ h=>by cases h),⟨fun n ob ho=>?_,hR.fresh,hR.sep,h3.imm,fun n b e o=>?_,h3.globs⟩,⟨h4.os,h4.tape,h4.output,h4.size,.refl _,h4.imms,Nat.le_refl _,fun _ _ _ h=>.inl h,fun b hlt _=>hold b hlt,fun n b hnb e=>.inr ⟨n,hnb,e⟩,fun b o hI hI'=>.inl (himm b o hI hI'),fun _ _=>.inl rfl⟩,hb,k v h7⟩
 ·refine ((hR.objs n ob ho).of_block fun b hb=>hold b (Qdl hR (n:=n) (by simp [blk,ho,hb]))).mono h4.imms (.refl _)
 ·cases hI':I' b o with
  | none=>rfl
  | some y =>
    have:=himm b o (hR.immsep n b e o) (by rw [hI']; simp)
    have:=Qdl hR e
    omega
end Go.Am
namespace Go.Am
open Go
section
variable {P:Program} {G:Nat→Option V} {n base:Nat} {fr:Fr} {σ:H} {K:V→Prop} {KF:Fr→H→Prop} {KV:V→H→Prop}
@[go_sem] theorem wt_done:wt P G n base .done fr σ KF=KF fr σ:=rfl
@[go_sem] theorem wt_rd {d g op t}:wt P G n base (.rd d g op t) fr σ KF=Qbr g fr (fun fr=>evR G fr σ (fun v=>wt P G n base t (fput fr d v) σ KF) op) (fun fr=>wt P G n base t (fput fr d (.tup [])) σ KF):=rfl
@[go_sem] theorem wt_wr {k d g op t}:wt P G n base (.wr k d g op t) fr σ KF=Qbr g fr (fun fr=>evW (if k&&!op.isApp then σ.o.length else base) G fr σ (fun v σ'=>wt P G n base t (fput fr d v) σ' KF) op) (fun fr=>wt P G n base t (fput fr d (.tup [])) σ KF):=rfl
@[go_sem] theorem wt_cl {k d g f args t}:wt P G n base (.cl k d g f args t) fr σ KF=Qbr g fr (fun fr=>CV P G (if k then σ.o.length else base) (arg G fr f) (args.map (arg G fr)) σ fun v σ'=>WT P G n base t (fput fr d v) σ' KF) (fun fr=>wt P G n base t (fput fr d (.tup [])) σ KF):=rfl
@[go_sem] theorem wt_bad {k d g t}:wt P G n base (.bad k d g t) fr σ KF=Qbr g fr (fun _=>False) (fun fr=>wt P G n base t (fput fr d (.tup [])) σ KF):=rfl
@[go_sem] theorem wt_alt {s t}:wt P G n base (.alt s t) fr σ KF=(wt P G n base s fr σ KF∧wt P G n base t fr σ KF):=rfl
attribute [go_sem] AOp.isApp
@[go_sem ↓] theorem QMH {A B:Fr→Prop}:Qbr none fr A B=A fr:=rfl
@[go_sem] theorem fput_some {d v}:fput fr (some d) v=QfT fr d v:=rfl
@[go_sem] theorem fput_none {v}:fput fr none v=fr:=rfl
attribute [go_sem ↓] Qff
@[go_sem ↓] theorem QyV {d v t}:Qd (fput fr (some d) v) t=if d=t then v else Qd fr t:=by rw [fput]; exact Qff _ _ _ _
@[go_sem ↓] theorem QyW {v t}:Qd (fput fr none v) t=Qd fr t:=rfl
@[go_sem ↓] theorem fget_nil {t}:Qd [] t=.any:=rfl
@[go_sem ↓] theorem fget_cons {i v r t}:Qd ((i,v)::r) t=if i=t then v else Qd r t:=rfl
@[go_sem] theorem fset_nil {t v}:QfT [] t v=[(t,v)]:=rfl
@[go_sem] theorem fset_cons {i u r t v}:QfT ((i,u)::r) t v=if i=t then (i,v)::r else (i,u)::QfT r t v:=rfl
@[go_sem] theorem fdel_nil {dead}:fdel [] dead=[]:=rfl
def QH8 (t:Nat):List Nat→Bool
 | []=>false
 | i::l=>if t=i then true else QH8 t l
theorem Qrf (t:Nat):∀ l,QH8 t l=l.contains t
 | []=>rfl
 | i::l=>by
   simp only [QH8,Qrf t l,List.contains_cons]
   by_cases h:t=i
   ·simp [h]
   ·simp [h]
@[go_sem] theorem nmem_nil {t}:QH8 t []=false:=rfl
@[go_sem] theorem nmem_cons {t i l}:QH8 t (i::l)=if t=i then true else QH8 t l:=rfl
@[go_sem] theorem fdel_cons {i v r dead}:fdel ((i,v)::r) dead=if QH8 i dead=true then fdel r dead else (i,v)::fdel r dead:=by
  rw [Qrf]
  unfold fdel
  rw [List.filter_cons]
  cases h:dead.contains i <;> simp
@[go_sem ↓] theorem QMQ {dead t}:Qd (fdel fr dead) t=if QH8 t dead=true then .any else Qd fr t:=by rw [QpB,Qrf]
@[go_sem ↓] theorem arg_t {m}:arg G fr (.t m)=Qd fr m:=rfl
@[go_sem ↓] theorem arg_c {v}:arg G fr (.c v)=v:=rfl
@[go_sem ↓] theorem arg_g {m}:arg G fr (.g m)=match G m with | some x=>.ref x 0 | none=>.any:=rfl
@[go_sem ↓] theorem evR_mov {x}:evR G fr σ K (.mov x)=K (arg G fr x):=rfl
@[go_sem ↓] theorem evR_bin {op x y}:evR G fr σ K (.bin op x y)=Qno op (arg G fr x) (arg G fr y) K:=rfl
@[go_sem ↓] theorem evR_un {op x}:evR G fr σ K (.un op x)=QLN op (arg G fr x) K:=rfl
@[go_sem ↓] theorem evR_nilc {x}:evR G fr σ K (.nilc x)=Qrx (arg G fr x) K:=rfl
@[go_sem ↓] theorem evR_len {kd x}:evR G fr σ K (.len kd x)=QpE σ kd (arg G fr x) K:=rfl
@[go_sem ↓] theorem evR_faddr {o x}:evR G fr σ K (.faddr o x)=Qlr o (arg G fr x) K:=rfl
@[go_sem ↓] theorem evR_iaddr {al sz x i}:evR G fr σ K (.iaddr al sz x i)=QiW sz al (arg G fr x) (arg G fr i) K:=rfl
@[go_sem ↓] theorem evR_eqp {neg x y}:evR G fr σ K (.eqp neg x y)=Qfh neg (arg G fr x) (arg G fr y) K:=rfl
@[go_sem ↓] theorem evR_look {ok ag ks z x k}:evR G fr σ K (.look ok ag ks z x k)=QjM σ ok ag ks z (arg G fr x) (arg G fr k) K:=rfl
@[go_sem ↓] theorem evR_mkfn {f a b}:evR G fr σ K (.mkfn f a b)=K (.fn f (a.map (arg G fr)) (b.map (arg G fr))):=rfl
def Ql4 (t:Bool) (A B:Prop):Prop:=(t=true→A)∧(t=false→B)
@[go_sem] theorem Qut {A B:Prop}:Ql4 true A B=A:=by simp [Ql4]
@[go_sem] theorem QrS {A B:Prop}:Ql4 false A B=B:=by simp [Ql4]
@[go_sem low] theorem QL2 {t:Bool} {A B:Prop}:Ql4 t A B=((t=true→A)∧(t=false→B)):=rfl
def Qiy (v:V) (X Y Z:Prop):Prop:=match v with
 | .bool c=>Ql4 c X Y
 | .tup _=>Z
 | _=>False
@[go_sem ↓] theorem QmT {A B:Fr→Prop} {s:Nat}:Qbr (some (s,true)) fr A B=Qiy (Qd fr s) (A (QfT fr s (.bool true))) (B (QfT fr s (.bool false))) (B fr):=by
  simp only [Qbr,Qiy,Ql4]
  cases Qd fr s <;> simp
@[go_sem ↓] theorem QmU {A B:Fr→Prop} {s:Nat}:Qbr (some (s,false)) fr A B=Qiy (Qd fr s) (B (QfT fr s (.bool true))) (A (QfT fr s (.bool false))) (B fr):=by
  simp only [Qbr,Qiy,Ql4]
  cases Qd fr s <;> simp [and_comm]
attribute [go_sem ↓] Qiy
def QL0 (c:V) (A B:Prop):Prop:=match c with
 | .bool t=>Ql4 t A B
 | _=>False
@[go_sem ↓] theorem QL1 {c:V} {A B:Prop}:condK c A B=QL0 c A B:=by cases c <;> rfl
attribute [go_sem ↓] QL0
def QIq (c a b:V) (K:V→Prop):Prop:=match c with
 | .bool t=>Ql4 t (K a) (K b)
 | _=>False
attribute [go_sem ↓] QIq
@[go_sem ↓] theorem evR_pick {c a b}:evR G fr σ K (.pick c a b)=QIq (arg G fr c) (arg G fr a) (arg G fr b) K:=rfl
def QpD (σ:H) (ag:Bool) (sz:Nat) (u:V) (K:V→Prop):Prop:=match u with
 | .ptr n v off=>match σ.o[n]? with
   | some (some (.arr v' _ cs))=>XU (v=v'∧off+sz≤cs.length∧(ag=false→sz=1)) (K (Qc7 ag off sz cs))
   | _=>False
 | .ref y off=>XU (off+sz≤y.cells.length∧(ag=false→sz=1)) (K (Qc7 ag off sz y.cells))
 | _=>False
@[go_sem ↓] theorem evR_load {ag sz x}:evR G fr σ K (.load ag sz x)=QpD σ ag sz (arg G fr x) K:=rfl
def Qx3 (ag:Bool) (sz:Nat) (u:V) (K:V→Prop):Prop:=match u with
 | .ref y off=>XU (off+sz≤y.cells.length∧(ag=false→sz=1)) (K (Qc7 ag off sz y.cells))
 | _=>False
@[go_sem ↓] theorem evR_loadi {ag sz x}:evR G fr σ K (.loadi ag sz x)=Qx3 ag sz (arg G fr x) K:=rfl
def evEqb (neg:Bool) (x y:V) (K:V→Prop):Prop:=match x,y with
    | .bool a,.bool b=>K (.bool (if neg then a != b else a==b))
    | _,_=>False
@[go_sem ↓] theorem evR_eqb {neg x y}:evR G fr σ K (.eqb neg x y)=evEqb neg (arg G fr x) (arg G fr y) K:=rfl
def evEqs (neg:Bool) (ks:List Kd) (x y:V) (K:V→Prop):Prop:=match x,y with
    | .agg l,.agg m=>match Qbo ks l m with
      | some b=>K (.bool (if neg then !b else b))
      | none=>False
    | _,_=>False
@[go_sem ↓] theorem evR_eqs {neg ks x y}:evR G fr σ K (.eqs neg ks x y)=evEqs neg ks (arg G fr x) (arg G fr y) K:=rfl
def QIv (k:IntKind) (x:V) (K:V→Prop):Prop:=match x with
    | .int _ n=>K (.int k (k.wrap n))
    | _=>False
@[go_sem ↓] theorem evR_conv {k x}:evR G fr σ K (.conv k x)=QIv k (arg G fr x) K:=rfl
@[go_sem ↓] theorem evR_eqf {neg x}:evR G fr σ K (.eqf neg x)=Qfi neg (arg G fr x) K:=rfl
@[go_sem ↓] theorem evR_eqi {neg x}:evR G fr σ K (.eqi neg x)=Qg0 neg (arg G fr x) K:=rfl
@[go_sem ↓] theorem evR_eqn {neg x}:evR G fr σ K (.eqn neg x)=Qfg neg (arg G fr x) K:=rfl
@[go_sem ↓] theorem evR_max3 {x y z}:evR G fr σ K (.max3 x y z)=QpC (arg G fr x) (arg G fr y) (arg G fr z) K:=rfl
attribute [go_sem ↓] Qfi Qg0 Qfg QpC
def QIp (x:V) (K:V→Prop):Prop:=match x with
    | .str s=>K (.str s)
    | .int _ n=>XU (0≤n∧n<128) (K (.str [UInt8.ofNat n.toNat]))
    | _=>False
@[go_sem ↓] theorem evR_same {x}:evR G fr σ K (.same x)=QIp (arg G fr x) K:=rfl
def Qx4 (ag:Bool) (off sz:Nat) (x:V) (K:V→Prop):Prop:=match x with
    | .agg cs=>XU (off+sz≤cs.length∧(ag=false→sz=1)) (K (Qc7 ag off sz cs))
    | _=>False
@[go_sem ↓] theorem evR_field {ag off sz x}:evR G fr σ K (.field ag off sz x)=Qx4 ag off sz (arg G fr x) K:=rfl
def QIz (ag:Bool) (sz len:Nat) (x i:V) (K:V→Prop):Prop:=match x,i with
    | .agg cs,.int _ i=>XU (0≤i∧i.toNat<len∧i.toNat * sz+sz≤cs.length∧(ag=false→sz=1)) (K (Qc7 ag (i.toNat * sz) sz cs))
    | _,_=>False
@[go_sem ↓] theorem evR_aidx {ag sz len x i}:evR G fr σ K (.aidx ag sz len x i)=QIz ag sz len (arg G fr x) (arg G fr i) K:=rfl
def QIo (x i:V) (K:V→Prop):Prop:=match x,i with
    | .str s,.int _ i=>XU (0≤i∧i.toNat<s.length) (K (.int .u8 (s.getD i.toNat 0).toNat))
    | _,_=>False
@[go_sem ↓] theorem evR_sidx {x i}:evR G fr σ K (.sidx x i)=QIo (arg G fr x) (arg G fr i) K:=rfl
def QIu (x:V) (i:Nat) (K:V→Prop):Prop:=match x with
    | .tup l=>XU (i<l.length) (K (l.getD i .any))
    | _=>False
@[go_sem ↓] theorem evR_extr {x i}:evR G fr σ K (.extr x i)=QIu (arg G fr x) i K:=rfl
def evMax (x y:V) (K:V→Prop):Prop:=match x,y with
    | .int k a,.int k' b=>XU (k=k') (K (.int k (if b > a then b else a)))
    | _,_=>False
@[go_sem ↓] theorem evR_maxi {x y}:evR G fr σ K (.maxi x y)=evMax (arg G fr x) (arg G fr y) K:=rfl
def evMin (x y:V) (K:V→Prop):Prop:=match x,y with
    | .int k a,.int k' b=>XU (k=k') (K (.int k (if b<a then b else a)))
    | _,_=>False
@[go_sem ↓] theorem evR_mini {x y}:evR G fr σ K (.mini x y)=evMin (arg G fr x) (arg G fr y) K:=rfl
attribute [go_sem ↓] Qno QLN Qrx QpE Qlr QiW Qfh QjM QpD Qx3 evEqb evEqs QIv QIp Qx4 QIz QIo QIu evMax evMin
attribute [go_sem] Qc7 V.cells Qcr QiC QzR QhU Qf Qc Qbo QnM H.push QlN
attribute [go_sem] List.getElem?_cons_zero List.getElem?_cons_succ List.getElem?_nil List.getD_cons_zero List.getD_cons_succ List.drop_zero List.drop_succ_cons List.take_zero List.take_succ_cons List.drop_nil List.take_nil List.length_cons List.length_nil List.map_cons List.map_nil List.cons_append List.nil_append List.append_nil List.set_cons_zero List.set_cons_succ
@[go_sem] theorem QAn {α:Type} {a:α} {l:List α}:(a::l)[0]?=some a:=rfl
@[go_sem ↓] theorem evW_new {T cs}:evW base G fr σ KV (.new T cs)=XU (ones cs) (KV (.ptr σ.o.length σ.t 0) (σ.push (.arr σ.t T cs))):=rfl
@[go_sem ↓] theorem evW_box {T x}:evW base G fr σ KV (.box T x)=XU (Qcr (arg G fr x)=true∧ones (arg G fr x).cells) (KV (.ptr σ.o.length σ.t 0) (σ.push (.arr σ.t T (arg G fr x).cells))):=rfl
def Qx0 (base sz:Nat) (σ:H) (p x:V) (K:V→H→Prop):Prop:=match p with
    | .ptr k v off=>match σ.o[k]? with
      | some (some (.arr v' T cs))=>XU (v=v'∧base≤k∧off+sz≤cs.length∧Qcr x=true∧x.cells.length=sz∧ones x.cells) (K (.tup []) ⟨σ.t,σ.o.set k (some (.arr v T (QlN cs off x.cells)))⟩)
      | _=>False
    | _=>False
@[go_sem ↓] theorem evW_store {sz p x}:evW base G fr σ KV (.store sz p x)=Qx0 base sz σ (arg G fr p) (arg G fr x) KV:=rfl
attribute [go_sem ↓] Qx0
@[go_sem] theorem ones_nil:ones []=True:=by simp [ones]
@[go_sem] theorem ones_cons {v l}:ones (v::l)=(QiC v=true∧ones l):=by simp [ones]
@[go_sem ↓] theorem evW_mkmap:evW base G fr σ KV .mkmap=KV (.mp σ.o.length σ.t) (σ.push (.map σ.t [])):=rfl
@[go_sem ↓] theorem resV_nil {K:List V→Prop}:Qq7 G fr σ [] K=K []:=rfl
@[go_sem ↓] theorem resV_tmp {t r} {K:List V→Prop}:Qq7 G fr σ (.tmp t::r) K=Qq7 G fr σ r fun l=>K (Qd fr t::l):=rfl
@[go_sem ↓] theorem resV_cell {t ag sz r} {K:List V→Prop}:Qq7 G fr σ (.cell t ag sz::r) K=QpD σ ag sz (Qd fr t) (fun v=>Qq7 G fr σ r fun l=>K (v::l)):=rfl
@[go_sem] theorem need_true {r:Prop}:XU True r=r:=by simp [XU]
attribute [go_sem] Bool.false_eq_true ne_eq not_false_eq_true not_true_eq_false false_and and_false or_true true_or or_false false_or forall_const imp_self and_self true_and and_true true_implies implies_true eq_self
end
end Go.Am
