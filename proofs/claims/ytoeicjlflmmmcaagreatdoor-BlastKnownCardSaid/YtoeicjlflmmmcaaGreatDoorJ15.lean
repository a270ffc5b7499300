/- Plain: the inputs among the gates; which of what is built makes none. -/
import Derived.Test.YtoeicjlflmmmcaaGreatDoorJ8
import Derived.Test.YtoeicjlflmmmcaaGreatDoorJ14
open Nat renaming reduceEqDiff → rq, reduceAdd → rA, reduceLeDiff → rL, reduceLT → rT, zero_add → zA, le_refl → lR, zero_le → zL, add_zero → aZ
open List renaming length_cons → lC, length_nil → lN, take_succ_cons → tSq, length_append → lA, nil_append → nA, cons_append → cA, append_assoc → aA, take_nil → tN, take_zero → tZ, length_map → lM
open Bool renaming not_false → nFq, not_true → nT
namespace Go.Proofs.YtoeicjlflmmmcaaGreatDoor
open Go Go.Am Go.Bl
set_option maxRecDepth 100000
set_option maxHeartbeats 1000000
def inF:List Gt→Nat→List (Int × Gt)
 | [],_=>[]
 | g::gs,n=>(if g.k=0 then [((n:Int)+1,g)] else [])++inF gs (n+1)
theorem Qnj:∀ (a b:List Gt) (n:Nat),inF (a++b) n=inF a n++inF b (n+a.length)
 | [],b,n=>by simp [inF]
 | g::a,b,n=>by
   rw [cA,inF,inF,Qnj a b (n+1),aA,lC]
   congr 3
   omega
theorem Qng:∀ {gs:List Gt} {n:Nat} {p:Int × Gt},p∈inF gs n↔∃ i:Nat,gs[i]?=some p.2∧p.2.k=0∧p.1=(n+i:Nat)+1
 | [],n,p=>by simp [inF]
 | g::gs,n,p=>by
   rw [inF,List.mem_append,Qng]
   constructor
   ·rintro (h | ⟨i,h1,h2,h3⟩)
    ·split at h
     ·rename_i hk
      rw [List.mem_singleton] at h
      subst h
      exact ⟨0,rfl,hk,by simp⟩
     ·cases h
    ·exact ⟨i+1,by simpa using h1,h2,by rw [h3]; omega⟩
   ·rintro ⟨i,h1,h2,h3⟩
    cases i with
    | zero =>
      left
      simp at h1
      subst h1
      rw [if_pos h2]
      simp only [List.mem_singleton]
      exact Prod.ext (by simpa using h3) rfl
    | succ i=>exact .inr ⟨i,by simpa using h1,h2,by rw [h3]; omega⟩
def inP (S:St):List (Int × Gt):=inF S.gs 0
variable {g:Gt}
theorem QLA {gs:List Gt} {cs cs':List (List Int)} (h:g.k≠0):inP ⟨gs++[g],cs⟩=inP ⟨gs,cs'⟩:=by
 unfold inP
 rw [Qnj]
 simp [inF,h]
variable {S:St}
theorem QH3 (h:g.k≠0) (cs:Int→List (List Int)):inP (put S (mkG S.gs g) cs).2=inP S:=by
 unfold put mkG
 cases ix S.gs g with
 | some i=>rfl
 | none=>exact QLA h
theorem and_in (S:St) (x y:Int):inP (Qd3 S x y).2=inP S:=by
 unfold Qd3
 split
 ·rfl
 split
 ·rfl
 split
 ·rfl
 exact QH3 (by simp) _
theorem or_in (S:St) (x y:Int):inP (orS S x y).2=inP S:=and_in S _ _
theorem xor_in (S:St) (x y:Int):inP (Qd5 S x y).2=inP S:=by
 unfold Qd5
 split
 ·rfl
 split
 ·rfl
 split
 ·rfl
 exact QH3 (by simp) _
theorem un_in (S:St) (x y:List Int):inP (Qv S x y).1=inP S:=by
 unfold Qv
 have key:∀ n,inP (it (unT x y) n (S,-1)).1=inP S:=fun n=>by
  induction n with
  | zero=>rfl
  | succ n ih =>
    simp only [it,unT]
    rw [or_in,xor_in,ih]
 exact key 64
theorem QIC (ap:Int) (x y:List Int) (S:St):∀ n,inP (it (clT ap x y) n S)=inP S
 | 0=>rfl
 | n+1=>by
   have:=QIC ap x y S n
   simp only [it]
   exact this
theorem QtB (L:List Nd) (K:List (Int × List Int)) (d:Nd) (x:List Int):∀ (E:List Int) (S:St),inP (QcH L K E d x S)=inP S
 | [],_=>rfl
 | o::E,S=>by
   show inP (QcH L K E d x (clS L K d x S o))=_
   rw [QtB L K d x E]
   unfold clS
   split
   ·rw [QIC,un_in]
   ·rfl
theorem Qpz {S:St} {u:Int} (h:∀ g∈S.gs,g.k=0→g.a≠u):∀ n,(fo (Qfe u) n S).2.gs=S.gs++(List.range n).map (fun k:Nat=>⟨0,u,(k:Int)⟩)∧(fo (Qfe u) n S).1=(List.range n).map fun k=>((S.gs.length+k:Nat):Int)+1
 | 0=>by simp [fo]
 | n+1=>by
   obtain ⟨h1,h2⟩:=Qpz h n
   have hx:ix (S.gs++(List.range n).map (fun k:Nat=>(⟨0,u,(k:Int)⟩:Gt))) ⟨0,u,(n:Int)⟩=none:=by
    unfold ix
    rw [if_neg]
    intro hm
    have hm:=List.mem_of_mem_tail hm
    rcases List.mem_append.1 hm with hm | hm
    ·exact h _ hm rfl rfl
    ·obtain ⟨k,hk,e⟩:=List.mem_map.1 hm
     have hk:=List.mem_range.1 hk
     injection e with _ _ e
     omega
   simp only [fo,Qfe]
   rw [h1,h2]
   unfold mkG
   rw [hx]
   simp only
   rw [List.range_succ,List.map_append,List.map_append,aA]
   simp
theorem Qpt (u:Int):∀ (l:List Nat) (n:Nat),(inF (l.map fun k:Nat=>(⟨0,u,(k:Int)⟩:Gt)) n).map (·.1)=(List.range l.length).map (fun k=>((n+k:Nat):Int)+1)∧∀ p∈inF (l.map fun k:Nat=>(⟨0,u,(k:Int)⟩:Gt)) n,p.2.a=u
 | [],n=>by simp [inF]
 | a::l,n=>by
   obtain ⟨h1,h2⟩:=Qpt u l (n+1)
   rw [List.map_cons,inF,if_pos rfl]
   refine ⟨?_,fun p hp=>?_⟩
   ·rw [List.map_append,h1,lC,List.range_succ_eq_map,List.map_cons (f:=fun k:Nat=>((n+k:Nat):Int)+1),List.map_map]
    have e:(List.range l.length).map (fun k:Nat=>((n+1+k:Nat):Int)+1)=(List.range l.length).map ((fun k:Nat=>((n+k:Nat):Int)+1) ∘ Nat.succ):=List.map_congr_left fun k _=>by simp only [Function.comp]; omega
    rw [e]
    simp
   ·rcases List.mem_append.1 hp with hp | hp
    ·rw [List.mem_singleton] at hp; subst hp; rfl
    ·exact h2 p hp
variable {u:Int}
theorem QAs (h:∀ p∈inP S,p.2.a≠u) :
 (inP (XL S u).1).map (·.1)=(inP S).map (·.1)++(XL S u).2∧∀ p∈inP (XL S u).1,p∈inP S∨p.2.a=u:=by
 have hg:∀ g∈S.gs,g.k=0→g.a≠u:=fun g hg hk=>by
  obtain ⟨i,hi⟩:=List.mem_iff_getElem?.1 hg
  exact h (((0+i:Nat):Int)+1,g) (Qng.2 ⟨i,hi,hk,rfl⟩)
 obtain ⟨h1,h2⟩:=Qpz hg 64
 have h3:=Qpt u (List.range 64) (0+S.gs.length)
 have hgs:(XL S u).1.gs=S.gs++(List.range 64).map fun k:Nat=>(⟨0,u,(k:Int)⟩:Gt):=h1
 have e:inP (XL S u).1=inP S++inF ((List.range 64).map fun k:Nat=>(⟨0,u,(k:Int)⟩:Gt)) (0+S.gs.length):=by
  unfold inP
  rw [hgs,Qnj]
 generalize hM:((List.range 64).map fun k:Nat=>(⟨0,u,(k:Int)⟩:Gt))=M at *
 refine ⟨?_,fun p hp=>?_⟩
 ·have hx:(XL S u).2=(List.range 64).map fun k:Nat=>((S.gs.length+k:Nat):Int)+1:=h2
  rw [e,List.map_append,h3.1,hx,List.length_range]
  simp only [zA]
 ·rw [e,List.mem_append] at hp
  exact hp.imp id (h3.2 p)
theorem QLV (S:St) (x y:List Int):Xo S 16 x y=some ((Qv S x y).1,Qml (-(Qv S x y).2)):=by
 unfold Xo
 simp
theorem bT_in {L:List Nd} {s:Bs} (hn:kL s.K u=none) (h:∀ p∈inP s.S,p.2.a≠u) :
 ((nd L u).kind=2∨(nd L u).kind=3→(inP (bT L s u).S).map (·.1)=(inP s.S).map (·.1)++kx (bT L s u).K u∧∀ p∈inP (bT L s u).S,p∈inP s.S∨p.2.a=u) ∧
 ((nd L u).kind=1∨((nd L u).kind=4∧(nd L u).op=16)→inP (bT L s u).S=inP s.S):=by
 have hk:¬ (kL s.K u).isSome=true:=by rw [hn]; decide
 refine ⟨fun hd=>?_,fun hd=>?_⟩
 ·have hb:QaX L s.K s.S u=XL s.S u:=by
   unfold QaX
   rw [if_neg (by omega),if_neg (by omega)]
  obtain ⟨f1,f2⟩:=QAs (u:=u) h
  have hx:kx (s.K++[(u,(XL s.S u).2)]) u=(XL s.S u).2:=Qf3 (QjK hn)
  unfold bT
  rw [if_neg hk,hb]
  split
  ·simp only
   rw [QtB,hx]
   exact ⟨f1,f2⟩
  ·simp only
   rw [hx]
   exact ⟨f1,f2⟩
 ·unfold bT
  rw [if_neg hk,if_neg (by omega)]
  simp only
  unfold QaX
  rcases hd with h1 | ⟨h4,h16⟩
  ·rw [if_pos h1]
  ·rw [if_neg (by omega),if_pos h4,h16,QLV]
   exact un_in _ _ _
theorem Qmv:∀ (gs:List Gt) (n:Nat),((inF gs n).map (·.1)).Pairwise (·<·)∧∀ x∈(inF gs n).map (·.1),(n:Int)<x
 | [],n=>by simp [inF]
 | g::gs,n=>by
   obtain ⟨h1,h2⟩:=Qmv gs (n+1)
   rw [inF,List.map_append]
   split
   ·simp only [List.map_cons,List.map_nil,cA,nA,List.pairwise_cons]
    refine ⟨⟨fun x hx=>by have:=h2 x hx; omega,h1⟩,fun x hx=>?_⟩
    rcases List.mem_cons.1 hx with rfl | hx
    ·omega
    ·have:=h2 x hx; omega
   ·simp only [List.map_nil,nA]
    exact ⟨h1,fun x hx=>by have:=h2 x hx; omega⟩
def frL (S:St):List Int:=(inP S).map (·.1)
theorem QK8 {v:Int}:v∈frL S↔∃ (i:Nat) (g:Gt),S.gs[i]?=some g∧g.k=0∧v=(i:Int)+1:=by
 unfold frL
 rw [List.mem_map]
 constructor
 ·rintro ⟨p,hp,rfl⟩
  obtain ⟨i,h1,h2,h3⟩:=Qng.1 hp
  exact ⟨i,p.2,h1,h2,by rw [h3,zA]⟩
 ·rintro ⟨i,g,h1,h2,rfl⟩
  exact ⟨((0+i:Nat)+1,g),Qng.2 ⟨i,h1,h2,rfl⟩,by simp⟩
variable {P:Program} {G:Nat→Option V}
section
attribute [local go_sem] lR zA zL beq_self_eq_true decide_false decide_true YP QHb QHa QG9 QG8 QG7 QG6 QG5
theorem Qmj {r:Nat→Nat} {n:Nat} (hr:∀ i,i<n→r i=i):∀ (l oB:List (Option Ob)) (i:Nat),i+l.length≤n→Qd6 n l=true→i+l.length≤oB.length→Qb8 r i l oB=oB.take i++l++oB.drop (i+l.length)
 | [],oB,i,_,_,_=>by simp [Qb8]
 | x::l,oB,i,hi,hu2,hB=>by
   have hx:x.map (Ob.ren r)=x:=by
    cases x with
    | none=>rfl
    | some ob =>
      simp only [Qd6,Bool.and_eq_true] at hu2
      simp only [Option.map_some]
      rw [Ob.ren_under hr ob hu2.1]
   have hu3:Qd6 n l=true:=by
    cases x with
    | none=>simpa [Qd6] using hu2
    | some ob=>simp only [Qd6,Bool.and_eq_true] at hu2; exact hu2.2
   simp only [lC] at hi hB
   rw [Qb8,hx,hr i (by omega),Qmj hr l _ (i+1) (by omega) hu3 (by rw [List.length_set]; omega)]
   have e1:(oB.set i x).take (i+1)=oB.take i++[x]:=by
    rw [List.take_add_one,List.take_set_of_le (lR i),List.getElem?_set_self (by omega)]; rfl
   rw [e1,List.drop_set_of_lt (by omega),show i+1+l.length=i+(l.length+1) by omega]
   simp
variable {n f b bB t e:Nat}
theorem QH2 {L:Nat}:∀ i,i<n→rOf (List.range n) L i=i:=fun i hi=>by
 unfold rOf
 rw [if_pos (by rw [List.length_range]; exact hi),List.getD_eq_getElem?_getD,List.getElem?_range hi]; rfl
variable {QS:V→H→Prop} {oS:List (Option Ob)}
theorem QyP {ex:List (Option Ob)} {args:List V} (h:C P G b f args ⟨t,oS⟩ QS) (hn:oS.length=n) (hbb:∀ i,b≤i→i<n→bB≤i) (hb:b≤n) (hu:Qd6 n oS=true) (ha:QU n args=true)
 (k:∀ v σ,QS v σ→n≤σ.o.length∧Qd6 n (σ.o.take n)=true):C P G bB f args ⟨t,oS++ex⟩ fun v σ=>∃ vS oE,QS vS ⟨σ.t,oE⟩∧v=V.ren (rOf (List.range n) (n+ex.length)) vS∧σ.o=oE.take n++ex++(oE.drop n).map (Option.map (Ob.ren (rOf (List.range n) (n+ex.length)))):=by
 subst hn
 have hl:(oS++ex).length=oS.length+ex.length:=by simp
 have hr:=QH2 (n:=oS.length) (L:=oS.length+ex.length)
 have hF:=QnI (oS:=oS) (rl:=List.range oS.length) (σB:=⟨t,oS++ex⟩) (bB:=bB) (Q:=fun v σ=>∃ vS oE,QS vS ⟨σ.t,oE⟩∧v=V.ren (rOf (List.range oS.length) (oS.length+ex.length)) vS∧σ.o=oE.take oS.length++ex++(oE.drop oS.length).map (Option.map (Ob.ren (rOf (List.range oS.length) (oS.length+ex.length))))) h List.length_range List.nodup_range (fun x hx=>by have:=List.mem_range.1 hx; simp only [hl]; omega)
  (fun i ob ho=>by
   have hi:=(List.getElem?_eq_some_iff.1 ho).1
   have hub:=QbN hu i ob ho
   refine ⟨hub,?_⟩
   simp only [hl]
   rw [hr i hi,Ob.ren_under hr ob hub,List.getElem?_append_left hi,ho]) (fun i h1 h2=>by simp only [hl]; rw [hr i h2]; exact hbb i h1 h2) hb ha (fun vS σS hq=>?_)
 ·simp only [hl] at hF
  rwa [ZX hr args ha] at hF
 ·obtain ⟨h1,h3⟩:=k vS σS hq
  simp only [hl]
  refine ⟨h1,vS,σS.o,hq,rfl,?_⟩
  unfold QcE
  rw [Qmj hr _ _ 0 (by rw [List.length_take]; omega) h3 (by rw [List.length_take,hl]; omega),List.length_take,Nat.min_eq_left h1]
  simp
theorem QyQ {ex:List (Option Ob)} {args:List V} (h:C P G b f args ⟨t,oS⟩ QS) (hbb:∀ i,b≤i→i<oS.length→bB≤i) (hb:b≤oS.length) (hu:Qd6 oS.length oS=true) (ha:QU oS.length args=true)
 (k:∀ v σ,QS v σ→σ.o.length=oS.length∧V.under oS.length v=true∧Qd6 oS.length σ.o=true):C P G bB f args ⟨t,oS++ex⟩ fun v σ=>∃ oE,QS v ⟨σ.t,oE⟩∧σ.o=oE++ex:=by
 refine (QyP (n:=oS.length) h rfl hbb hb hu ha (fun v σ hq=>?_)).conseq fun v σ hq=>?_
 ·obtain ⟨h1,h2,h3⟩:=k v σ hq
  exact ⟨by omega,by rw [List.take_of_length_le (by omega)]; exact h3⟩
 ·obtain ⟨vS,oE,hq,rfl,ho⟩:=hq
  obtain ⟨h1,h2,h3⟩:=k vS _ hq
  simp only at h1
  rw [V.ren_under (QH2) vS h2]
  refine ⟨oE,hq,?_⟩
  rw [ho,List.take_of_length_le (by omega),List.drop_eq_nil_of_le (by omega)]
  simp
variable {s:Bs} {B:Bv} {g:Gr}
theorem QjR:Qd6 12 (bT' g B s e)=true:=QmE
theorem t_Bits (hT:Qe P tab) (SO:Q1 P) {I:Int→Int→Bool} {cap:Nat} {val:Int→Int} (cx:Ctx I g.L val) (hf:QeA g.L) (hs:BInv I g.L val cap s) (hLl:g.L.length≤1000000) {id:Int} (h0:0≤id) (h1:id<g.L.length) {ex:List (Option Ob)} :
 C P G 5 Q4 [.ptr 7 g.b 0,.int .i64 id] ⟨t,bT' g B s e++ex⟩ fun v σ=>v=.tup [.lst 1 (Qb (kx (blB g.L s id).K id)) false,.bool true]∧∃ t' B' e',t≤t'∧σ=⟨t',bT' g B' (blB g.L s id) e'++ex⟩:=by
 refine (QyQ (bB:=5) (ex:=ex) (QsX hT SO cx hf hs hLl (t:=t) (B:=B) (e:=e) h0 h1) (fun i h _=>h) (by rw [Q7]; decide) (by rw [Q7]; exact QjR) (by rw [Q7]; rfl) (fun v σ hq=>?_)).conseq fun v σ hq=>?_
 ·obtain ⟨rfl,t',B',e',ht,rfl⟩:=hq
  exact ⟨by rw [Q7,Q7],by rw [Q7]; rfl,by rw [Q7]; exact QjR⟩
 ·obtain ⟨oE,⟨hv,t',B',e',ht,hσ⟩,ho⟩:=hq
  obtain ⟨σt,σo⟩:=σ
  cases hσ
  simp only at ho
  subst ho
  exact ⟨hv,_,B',e',ht,rfl⟩
theorem QHX (hT:Qe P tab) {base:Nat} {ex:List (Option Ob)} :
 C P G base Y3 [.ptr 1 g.v0 0] ⟨t,bT' g B s e++ex⟩ fun v σ=>v=.int .i64 g.L.length∧∃ t',t≤t'∧σ=⟨t',bT' g B s e++ex⟩:=by
 have:=QxC (P:=P) (G:=G) hT (base:=base) (fmt:=g.fmt) (v0:=g.v0) (v1:=g.v1) (v2:=g.v2) (v3:=g.v3) (v4:=g.v4) (t:=t) (L:=g.L) (ex:=bO g B s.S s.K ⟨e,s.E⟩++ex)
 rw [← aA] at this
 exact this
theorem QL8 (hT:Qe P tab) {l:List Int} {n:Int} (hl:l.length≤9000000):Pure P G QbI [.lst 1 (Qb l) false,.int .i64 n] fun v=>v=.bool (decide (n∈l)):=by
 intro t
 refine Qj 0 (zL _) (Qo hT Yc (by simp [YP]) (Qm 1000 ?_))
 simp -implicitDefEqProofs (disch:=omega) only [go_sem,↓reduceIte,reduceCtorEq,rq]
 refine Yn l (fun i fr σ=>∃ t',σ=⟨t',[]⟩∧n ∉ l.take i∧Qd fr 0=.lst 1 (Qb l) false∧Qd fr 1=.int .i64 n∧Qd fr 5=.int .i64 ((i:Nat):Int)) (fun e fr σ=>(e=.ret∧Qd fr 4=.bool true∧n∈l)∨(e=.ex 0∧n ∉ l)) ⟨t,rfl,by simp,by simp -implicitDefEqProofs (disch:=omega) only [go_sem,↓reduceIte],by simp -implicitDefEqProofs (disch:=omega) only [go_sem,↓reduceIte,reduceCtorEq],by simp -implicitDefEqProofs (disch:=omega) only [go_sem,↓reduceIte,reduceCtorEq,rq]; rfl⟩ (fun i c hc fr σ hJ=>?_) (fun i hi fr σ hJ=>?_) (fun e fr σ hE=>?_)
 ·obtain ⟨t',rfl,hn,f0,f1,f5⟩:=hJ
  have hlt:=(List.getElem?_eq_some_iff.1 hc).1
  have hki:(i:Int)<l.length:=by omega
  have hk0:(0:Int)≤(i:Int):=by omega
  have hw:=QhJ hlt (by omega)
  have gl:=Qb9 hc
  have hts:l.take (i+1)=l.take i++[c]:=by rw [List.take_add_one,hc]; rfl
  by_cases e:c=n
  ·have hm:n∈l:=e▸List.mem_of_getElem? hc
   refine Qh [(0,.lst 1 (Qb l) false),(1,.int .i64 n),(5,.int .i64 ((i:Nat):Int))] ⟨f0,f1,f5,trivial⟩  1000 ?_
   simp -implicitDefEqProofs (disch:=omega) only [go_sem,↓reduceIte,reduceCtorEq,rq,Qi,lC,lN,true_implies,true_and,and_true,hki,hk0,hlt,Int.toNat_natCast,gl,e]
   first | exact .inl ⟨rfl,rfl,hm⟩ | exact .inl ⟨rfl,hm⟩ | exact hm
  ·refine Qh [(0,.lst 1 (Qb l) false),(1,.int .i64 n),(5,.int .i64 ((i:Nat):Int))] ⟨f0,f1,f5,trivial⟩  1000 ?_
   simp -implicitDefEqProofs (disch:=omega) only [go_sem,↓reduceIte,reduceCtorEq,rq,Qi,lC,lN,false_implies,true_implies,true_and,and_true,not_false_eq_true,hki,hk0,hlt,Int.toNat_natCast,gl,e,hw]
   refine ⟨_,_,Shift.refl _ _ _ _,t',rfl,?_,?_⟩
   ·rw [hts,List.mem_append]
    rintro (h | h)
    ·exact hn h
    ·exact e (List.mem_singleton.1 h).symm
   ·simp -implicitDefEqProofs (disch:=omega) only [go_sem,↓reduceIte,reduceCtorEq,rq]
 ·obtain ⟨t',rfl,hn,f0,f1,f5⟩:=hJ
  rw [hi,List.take_length] at hn
  refine Qh [(0,.lst 1 (Qb l) false),(1,.int .i64 n),(5,.int .i64 ((i:Nat):Int))] ⟨f0,f1,f5,trivial⟩  1000 ?_
  simp -implicitDefEqProofs (disch:=omega) only [go_sem,↓reduceIte,reduceCtorEq,rq,Qi,true_and,hi,Int.lt_irrefl]
  first | exact hn | exact .inr ⟨rfl,hn⟩
 ·rcases hE with ⟨rfl,f4,hm⟩ | ⟨rfl,hm⟩
  ·refine Qg 1000 ?_
   simp -implicitDefEqProofs (disch:=omega) only [go_sem,and_true,f4,hm]
  ·refine Qg 1000 ?_
   simp -implicitDefEqProofs (disch:=omega) only [go_sem,↓reduceIte,and_true,hm]
end
section
attribute [local go_sem] nFq nT aZ lR Nat.mul_one zA beq_self_eq_true XT QJp QJo Qu4 QJn QJm QJl QJk QJj QJi QJh QJg decide_false decide_true Q3
def frT (gs:List Gt):List Int:=(inF gs 0).map (·.1)
theorem QAu {gs:List Gt} {x:Gt}:frT (gs++[x])=frT gs++if x.k=0 then [(gs.length:Int)+1] else []:=by
 unfold frT
 rw [Qnj,List.map_append]
 congr 1
 by_cases h:x.k=0
 ·simp [inF,h]
 ·simp [inF,h]
theorem Qtr (gs:List Gt):(frT gs).length≤gs.length:=by
 unfold frT
 have key:∀ (gs:List Gt) (n:Nat),(inF gs n).length≤gs.length:=fun gs=>by
  induction gs with
  | nil=>intro n; simp [inF]
  | cons g gs ih =>
    intro n
    rw [inF,lA,lC]
    have:=ih (n+1)
    split
    ·simp only [List.length_singleton]; omega
    ·simp only [lN]; omega
 rw [lM]; exact key gs 0
variable {E:Ev} {K:List (Int × List Int)} {S:St} {B:Bv} {g:Gr} {t cap e:Nat}
theorem QIA {n:Nat} {fr:Fr} {a:Option Ob} (r:List (Option Ob)):Shift G n 5 fr ⟨t,bH g B S K E++a::r⟩ fr ⟨t,bH g B S K E++[a]⟩ :=
 Shift.drop (Xd 13 (bH g B S K E++a::r)) (lR _) (by rw [QK]; omega)
theorem QLs (hT:Qe P tab) (hgl:S.gs.length≤9000000) (hkd:∀ (i:Nat) (x:Gt),S.gs[i]?=some x→x.k≤2) :
 C P G 5 Yj [.ptr 7 g.b 0] ⟨t,bH g B S K E⟩ fun v σ=>∃ t' w,t≤t'∧v=.sl 12 w 0 1 (frT S.gs).length none∧σ=⟨t',bH g B S K E++[some (.arr w 3 (Qb (frT S.gs)))]⟩:=by
 refine Qo hT YY (by simp [XT]) (Qm 16 ?_)
 simp -implicitDefEqProofs (disch:=omega) only [go_sem,↓reduceIte,reduceCtorEq,rq]
 refine QX (Shift.own (s:=3) (sz:=1) (T:=3) (z:=0) (by simp -implicitDefEqProofs (disch:=omega) only [go_sem,↓reduceIte,reduceCtorEq,rq]) (by decide)) (Qg 1000 ?_)
 simp -implicitDefEqProofs (disch:=omega) only [go_sem,↓reduceIte,reduceCtorEq,rA,rq,rL,b_7,Q8,lC,lN,true_implies,and_true,H.push]
 refine Yn S.gs (fun i fr σ=>∃ t' w,t≤t'∧σ=⟨t',bH g B S K E++[some (.arr w 3 (Qb (frT (S.gs.take i))))]⟩∧Qd fr 3=.sl 12 w 0 1 (frT (S.gs.take i)).length none∧Qd fr 11=.sl 8 B.g 0 3 S.gs.length none∧Qd fr 12=.int .i64 S.gs.length∧Qd fr 13=.int .i64 ((i:Nat):Int)) (fun e fr σ=>e=.ex 0∧∃ t' w,t≤t'∧σ=⟨t',bH g B S K E++[some (.arr w 3 (Qb (frT S.gs)))]⟩∧Qd fr 3=.sl 12 w 0 1 (frT S.gs).length none) ⟨t+1,t,by omega,rfl,by simp -implicitDefEqProofs (disch:=omega) only [go_sem,↓reduceIte,reduceCtorEq,rq]; rfl,by simp -implicitDefEqProofs (disch:=omega) only [go_sem,↓reduceIte,reduceCtorEq,rq],by simp -implicitDefEqProofs (disch:=omega) only [go_sem,↓reduceIte,reduceCtorEq,rq],by simp -implicitDefEqProofs (disch:=omega) only [go_sem,↓reduceIte,reduceCtorEq,rq]; rfl⟩ (fun i x hx fr σ hJ=>?_) (fun i hi fr σ hJ=>?_) (fun e fr σ hE=>?_)
 ·obtain ⟨t',w,ht,rfl,f3,f11,f12,f13⟩:=hJ
  have hlt:=(List.getElem?_eq_some_iff.1 hx).1
  have hki:(i:Int)<S.gs.length:=by omega
  have hk0:(0:Int)≤(i:Int):=by omega
  have hw:=QhJ hlt (by omega)
  have gx:=QLE hx
  have hgl3:=QxS S.gs
  have hsn:frT (S.gs.take (i+1))=frT (S.gs.take i)++if x.k=0 then [(i:Int)+1] else []:=by
   rw [List.take_add_one,hx,Option.toList_some,QAu,List.length_take,Nat.min_eq_left (by omega)]
  have hfl:(frT (S.gs.take i)).length≤i:=by
   have:=Qtr (S.gs.take i)
   rw [List.length_take] at this; omega
  obtain ⟨k,a,b⟩:=x
  simp only [Gtc] at gx
  simp only at hsn
  by_cases h0:k=0
  ·subst h0
   rw [if_pos rfl] at hsn
   refine Qh [(3,.sl 12 w 0 1 (frT (S.gs.take i)).length none),(11,.sl 8 B.g 0 3 S.gs.length none),(12,.int .i64 S.gs.length),(13,.int .i64 ((i:Nat):Int))] ⟨f3,f11,f12,f13,trivial⟩  1000 ?_
   simp -implicitDefEqProofs (disch:=omega) only [go_sem,↓reduceIte,reduceCtorEq,rA,rq,rL,b_8,QK,X0,x12,x13,y12,y13,Qi,lC,lN,cA,nA,false_implies,true_implies,true_and,and_true,hki,hk0,hlt,Int.toNat_natCast,gx,hgl3,c0,hw]
   refine ⟨_,_,QIA _,t'+1+1,t'+1,by omega,?_⟩
   simp -implicitDefEqProofs (disch:=omega) only [go_sem,↓reduceIte,rq,hsn,lA,lC,lN]
   simp [Qb]
  ·rw [if_neg h0,List.append_nil] at hsn
   have h0':¬ ((k:Nat):Int)=0:=by omega
   refine Qh [(3,.sl 12 w 0 1 (frT (S.gs.take i)).length none),(11,.sl 8 B.g 0 3 S.gs.length none),(12,.int .i64 S.gs.length),(13,.int .i64 ((i:Nat):Int))] ⟨f3,f11,f12,f13,trivial⟩  1000 ?_
   simp -implicitDefEqProofs (disch:=omega) only [go_sem,↓reduceIte,reduceCtorEq,rA,rq,rL,b_8,QK,X0,x12,x13,y12,y13,Qi,lC,lN,cA,nA,false_implies,true_implies,true_and,and_true,hki,hk0,hlt,Int.toNat_natCast,gx,hgl3,h0',hw]
   refine ⟨_,_,QIA _,t'+1,w,by omega,?_⟩
   simp -implicitDefEqProofs (disch:=omega) only [go_sem,↓reduceIte,rq,hsn]
 ·obtain ⟨t',w,ht,rfl,f3,f11,f12,f13⟩:=hJ
  rw [hi,List.take_length] at f3
  rw [hi,List.take_length]
  refine Qh [(3,.sl 12 w 0 1 (frT S.gs).length none),(11,.sl 8 B.g 0 3 S.gs.length none),(12,.int .i64 S.gs.length),(13,.int .i64 ((i:Nat):Int))] ⟨f3,f11,f12,f13,trivial⟩ 1000 ?_
  simp -implicitDefEqProofs (disch:=omega) only [go_sem,↓reduceIte,rq,true_and,hi,Int.lt_irrefl]
  exact ⟨t',w,ht,⟨rfl,rfl⟩,rfl⟩
 ·obtain ⟨rfl,t',w,ht,rfl,f3⟩:=hE
  refine XN [(3,.sl 12 w 0 1 (frT S.gs).length none)] ⟨f3,trivial⟩ 1000 ?_
  simp -implicitDefEqProofs (disch:=omega) only [go_sem,↓reduceIte,rq]
  exact ⟨t',w,ht,rfl,rfl,rfl⟩
variable {s:Bs} {I:Int→Int→Bool}
theorem q_Free (hT:Qe P tab) {val:Int→Int} (hs:BInv I g.L val cap s) :
 C P G 5 Yj [.ptr 7 g.b 0] ⟨t,bT' g B s e⟩ fun v σ=>v=.lst 1 (Qb (frT s.S.gs)) false∧∃ t',t≤t'∧σ=⟨t',bT' g B s e⟩:=by
 have h2:=hs.g
 have h3:=hs.hc
 refine Qj 12 (by decide) (QaT (QLs hT (by omega) hs.k.ok.wf.kd) fun v σ hq=>?_)
 obtain ⟨t',w,ht,rfl,rfl⟩:=hq
 refine .inr ⟨12,w,3,Qb (frT s.S.gs),by decide,rfl,QL _,?_,Qug _,t',ht,?_⟩
 ·simp only [QW,List.length_set,QK]; omega
 ·show H.mk _ (List.take 12 (Q6 _ 5 ((bH g B s.S s.K ⟨e,s.E⟩++_).set 12 none)))=_
  rw [Qkx (by decide) rfl]
  rfl
theorem t_Free (hT:Qe P tab) {val:Int→Int} (hs:BInv I g.L val cap s) {ex:List (Option Ob)} :
 C P G 5 Yj [.ptr 7 g.b 0] ⟨t,bT' g B s e++ex⟩ fun v σ=>v=.lst 1 (Qb (frT s.S.gs)) false∧∃ t',t≤t'∧σ=⟨t',bT' g B s e++ex⟩:=by
 refine (QyQ (bB:=5) (ex:=ex) (q_Free hT hs (t:=t) (B:=B) (e:=e)) (fun i h _=>h) (by rw [Q7]; decide) (by rw [Q7]; exact QjR) (by rw [Q7]; rfl) (fun v σ hq=>?_)).conseq fun v σ hq=>?_
 ·obtain ⟨rfl,t',ht,rfl⟩:=hq
  exact ⟨rfl,by rw [Q7]; rfl,by rw [Q7]; exact QjR⟩
 ·obtain ⟨oE,⟨hv,t',ht,hσ⟩,ho⟩:=hq
  obtain ⟨σt,σo⟩:=σ
  cases hσ
  simp only at ho
  subst ho
  exact ⟨hv,_,ht,rfl⟩
end
variable {k w T n cap t e:Nat}
theorem QsR {o:List (Option Ob)} {cs:List V} (h:o[k]?=some (some (.arr w T cs))) (hn:n=cs.length) (hc:∀ u∈cs,u.cells=[u]∧Qf u=true):Seen o (.sl k w 0 1 n none) (.lst 1 cs false):=by
 refine Qzv (T:=T) (ds:=[]) ?_ hn hc
 rw [List.append_nil]; exact h
theorem Qzw {o:List (Option Ob)} {l:List Int} (h:o[k]?=some (some (.arr w T (Qb l)))) (hn:n=l.length):Seen o (.sl k w 0 1 n none) (.lst 1 (Qb l) false) :=
 QsR h (by rw [Qi]; exact hn) fun u hu=>by
  obtain ⟨a,_,rfl⟩:=List.mem_map.1 hu
  exact ⟨rfl,rfl⟩
theorem QsS {o:List (Option Ob)} {l:List Bool} (h:o[k]?=some (some (.arr w T (nbs l)))) (hn:n=l.length):Seen o (.sl k w 0 1 n none) (.lst 1 (nbs l) false) :=
 QsR h (by rw [Yp]; exact hn) fun u hu=>by
  obtain ⟨a,_,rfl⟩:=List.mem_map.1 hu
  exact ⟨rfl,rfl⟩
variable {B:Bv} {M:List Bool} {tS tC:Bool} {C':List Cl} {Sy:List Int} {s:Bs} {g:Gr}
theorem QsW (hT:Qe P tab) (SO:Q1 P) {val:Int→Int} (hL:g.L.length≤1000000) (hok:okN g.L) (hS:∀ x∈Sy,i64 x) (hC:C'.length≤1000000) (hCn:∀ c∈C',i64 c.n) (hs:BInv (Qbp Sy C' g.L) g.L val cap s) (hM:M=mdl (Qbp Sy C' g.L) s.S.gs) :
 C P G 5 Xf [.ptr 7 g.b 0,.agg [.lst 1 (Qb Sy) tS,.lst 4 (C'.map Cl.v) tC]] ⟨t,bT' g B s e⟩ fun v σ=>∃ u t' o1,t≤t'∧v=.sl 13 u 0 1 M.length none∧σ=⟨t',bT' g B s e++[o1,some (.arr u 4 (nbs M))]⟩:=by
 have h2:=hs.g
 have h3:=hs.hc
 subst hM
 rw [Zi]
 exact QxD hT SO hL hok Sy hS tS C' hC hCn tC hs.k.ok.wf (by omega)
theorem QsN (hT:Qe P tab) (SO:Q1 P) {val:Int→Int} (hL:g.L.length≤1000000) (hok:okN g.L) (hS:∀ x∈Sy,i64 x) (hC:C'.length≤1000000) (hCn:∀ c∈C',i64 c.n) (hs:BInv (Qbp Sy C' g.L) g.L val cap s) (hM:M=mdl (Qbp Sy C' g.L) s.S.gs) {x:Option Ob} :
 C P G 5 Xf [.ptr 7 g.b 0,.agg [.lst 1 (Qb Sy) tS,.lst 4 (C'.map Cl.v) tC]] ⟨t,bT' g B s e++[x]⟩ fun v σ=>∃ u t' o1,t≤t'∧v=.sl 14 u 0 1 M.length none∧σ=⟨t',bT' g B s e++[x,o1,some (.arr u 4 (nbs M))]⟩:=by
 refine (QyP (bB:=5) (ex:=[x]) (n:=12) (QsW hT SO hL hok hS hC hCn hs hM (tS:=tS) (tC:=tC) (t:=t) (B:=B) (e:=e)) Q7 (fun i h _=>h) (by decide) QjR (by rfl) (fun v σ hq=>?_)).conseq fun v σ hq=>?_
 ·obtain ⟨u,t',o1,ht,rfl,rfl⟩:=hq
  refine ⟨by rw [QlH]; exact Nat.le_add_right _ _,?_⟩
  show Qd6 12 (List.take 12 (bT' g B s e++_))=true
  rw [show List.take 12 (bT' g B s e++[o1,some (.arr u 4 (nbs M))])=bT' g B s e from Qag]
  exact QjR
 ·obtain ⟨vS,oE,⟨u,t',o1,ht,rfl,hσ⟩,rfl,ho⟩:=hq
  obtain ⟨σt,σo⟩:=σ
  cases hσ
  simp only at ho
  subst ho
  refine ⟨u,_,o1.map (Ob.ren (rOf (List.range 12) (12+[x].length))),ht,rfl,?_⟩
  have e1:List.take 12 (bT' g B s e++[o1,some (.arr u 4 (nbs M))])=bT' g B s e:=Qag
  have e2:List.drop 12 (bT' g B s e++[o1,some (.arr u 4 (nbs M))])=[o1,some (.arr u 4 (nbs M))]:=rfl
  rw [e1,e2]
  simp only [List.map_cons,List.map_nil,Option.map_some,Ob.ren,Yo _ (Qxi M),aA,cA,nA]
theorem QtS (hT:Qe Tryz.prog tab) {I:Int→Int→Bool} {val:Int→Int} (hs:BInv I g.L val cap s) (hcs:0<s.S.cs.length) {bB:Nat} {ex:List (Option Ob)} :
 C Tryz.prog G bB QZ [.ptr 7 g.b 0] ⟨t,bT' g B s e++ex⟩ fun v σ=>v=fml s.S.gs.length s.S.cs∧∃ t',t≤t'∧σ=⟨t',bT' g B s e++ex⟩:=by
 refine (QyQ (bB:=bB) (ex:=ex) (QeT hT hs hcs (t:=t) (B:=B) (e:=e)) (fun i h1 h2=>by rw [Q7] at h2; omega) (by rw [Q7]; decide) (by rw [Q7]; exact QjR) (by rw [Q7]; rfl) (fun v σ hq=>?_)).conseq fun v σ hq=>?_
 ·obtain ⟨rfl,t',ht,rfl⟩:=hq
  exact ⟨rfl,by rw [Q7]; rfl,by rw [Q7]; exact QjR⟩
 ·obtain ⟨oE,⟨hv,t',ht,hσ⟩,ho⟩:=hq
  obtain ⟨σt,σo⟩:=σ
  cases hσ
  simp only at ho
  subst ho
  exact ⟨hv,_,ht,rfl⟩
end Go.Proofs.YtoeicjlflmmmcaaGreatDoor
namespace Go.Proofs.YtoeicjlflmmmcaaGreatDoor
open Go Go.Am Go.Bl
set_option maxRecDepth 100000
variable {G:Nat→Option V}
set_option maxHeartbeats 1000000
section
attribute [local go_sem] nFq lR zA zL Qr9
variable {x y z:Option Ob} {e n t:Nat} {s:Bs} {B:Bv} {g:Gr}
theorem QA4 {ex:List (Option Ob)}:(bT' g B s e++x::y::ex)[13]?=some y:=rfl
theorem bT_14 {ex:List (Option Ob)}:(bT' g B s e++x::y::z::ex)[14]?=some z:=rfl
theorem bT_s14 {w:Option Ob} {ex:List (Option Ob)}:(bT' g B s e++x::y::z::ex).set 14 w=bT' g B s e++x::y::w::ex:=rfl
theorem QqD {ex y:List (Option Ob)}:(bT' g B s e++ex)++y=bT' g B s e++(ex++y):=aA ..
variable {cs:List V}
theorem QLF {k w v o z l:Nat} {m:Option Nat} (h:n≠k):Zw k w cs (.sl n v o z l m)=.sl n v o z l m:=by simp [Zw,h]
def fmJ (wl:List V) (wt:Bool) (Fl:List Int) (F:List (List Int)) (M:List Bool) (t0:Nat) (fr:Fr) (σ:H):Prop :=
 ∃ km u t,t0≤t∧σ=⟨t,List.replicate km none++[some (.arr u 4 (nbs M))]⟩∧Qd fr 2=.lst 1 wl wt∧Qd fr 17=.lst 1 (Qb Fl) false∧Qd fr 20=.ref (.agg [.int .i64 M.length,.lst 1 (F.map row) false]) 0∧Qd fr 21=.sl km u 0 1 M.length none
theorem Qmh {x:Option Ob}:∀ (km:Nat) (o:List (Option Ob)),o[km]?=some x→Zl (List.replicate km none++[x]) o
 | 0,o,h=>by
   cases x with
   | none=>simp [Zl]
   | some ob=>simp [Zl]; rw [← h]; cases o <;> simp
 | km+1,o,h=>by
   rw [List.replicate_succ]
   simp only [cA,Zl]
   exact Qmh km o.tail (by rw [List.getElem?_tail]; exact h)
variable {M:List Bool}
theorem Qlp {kc tc T km u:Nat} {fr:Fr} {a:V} {o:List (Option Ob)} (hn:Qc (a::cs)=true) (hc:o[kc]?=some (some (.arr tc T (a::cs)))) (hm:o[km]?=some (some (.arr u 4 (nbs M)))) (hne:kc≠km) :
 Shift G n 0 fr ⟨t,o⟩ (Qpy kc tc (a::cs) fr) ⟨t,List.replicate km none++[some (.arr u 4 (nbs M))]⟩:=by
 refine (Shift.freeze (k:=kc) (v:=tc) (T:=T) (cs:=a::cs) (zL _) hc hn).trans (Shift.drop (Qmh km _ ?_) (lR _) (zL _))
 rw [YX,if_neg (by omega),List.getElem?_set,if_neg hne,hm]
 have e:(nbs M).map (Zw kc tc (a::cs))=nbs M:=by simp [nbs,Zw]
 simp only [Option.map_some,Ob.mapV,e]
theorem r31_ok (hT:Qe Tryz.prog tab) (SO:Q1 Tryz.prog) {cap:Nat} (hL:g.L.length≤1000000) (hok:okN g.L) {Sy:List Int} (hS:∀ x∈Sy,i64 x) {C':List Cl} (hC:C'.length≤1000000) (hCn:∀ c∈C',i64 c.n) {tS tC:Bool} (hs:BInv (Qbp Sy C' g.L) g.L (val Sy C' g.L) cap s) (hcs:0<s.S.cs.length) (hM:M=mdl (Qbp Sy C' g.L) s.S.gs) {wl:List V} {wt:Bool} {Fl:List Int} :
 W Tryz.prog G 219 0 (.reg Qr9 [160,161,162,163,164]) [(2,.lst 1 wl wt),(4,eR Sy tS C' tC),(10,.ptr 7 g.b 0),(17,.lst 1 (Qb Fl) false)] ⟨t,bT' g B s e⟩ fun e fr σ=>e=.nrm∧∃ fr' σ',Shift G 219 0 fr σ fr' σ'∧fmJ wl wt Fl s.S.cs M t fr' σ':=by
 have hml:M.length=s.S.gs.length:=by rw [hM]; exact Zi _
 refine Qm 1000 ?_
 simp -implicitDefEqProofs (disch:=omega) only [go_sem,↓reduceIte,reduceCtorEq,rA,rq,Q7,QlH,lC,lN,false_implies,and_true]
 refine ⟨?_,?_⟩
 ·refine call hT Qt (QeT hT hs hcs) 1000 fun v σ hv=>?_
  obtain ⟨rfl,t1,ht1,rfl⟩:=hv
  simp -implicitDefEqProofs (disch:=omega) only [go_sem,↓reduceIte,rq,Q7,and_true]
  refine ⟨?_,?_⟩
  ·refine call hT QM (Xj (by decide) (by rw [Q7]; decide) (QsW hT SO hL hok hS hC hCn hs hM)) 1000 fun v σ hv=>?_
   obtain ⟨u,t2,o1,ht2,rfl,rfl⟩:=hv
   unfold fml
   simp -implicitDefEqProofs (disch:=omega) only [go_sem,↓reduceIte,rA,rq,QlH,QqD,bT_14,bT_s14,lC,lN,nA,cA,true_and,and_true]
   refine ⟨_,_,Qlp (kc:=14) (km:=13) rfl rfl rfl (by decide),13,u,_,by omega,rfl,?_⟩
   simp only [Y4,ZP,Qfc,QjL,Qh9,Qfb,QLF,ne_eq,rq,not_false_eq_true,hml]
   simp -implicitDefEqProofs (disch:=omega) only [go_sem,↓reduceIte,rq]
  ·refine call hT QM (Xj (by decide) (by rw [QlH]; exact Nat.le_add_left _ _) (QsN hT SO hL hok hS hC hCn hs hM)) 1000 fun v σ hv=>?_
   obtain ⟨u,t2,o1,ht2,rfl,rfl⟩:=hv
   unfold fml
   simp -implicitDefEqProofs (disch:=omega) only [go_sem,↓reduceIte,rA,rq,Qiq,Qcq,lC,lN,nA,cA,true_and,and_true]
   refine ⟨_,_,Qlp (kc:=12) (km:=14) rfl rfl rfl (by decide),14,u,_,by omega,rfl,?_⟩
   simp only [Y4,ZP,Qfc,QjL,Qh9,Qfb,QLF,ne_eq,rq,not_false_eq_true,hml]
   simp -implicitDefEqProofs (disch:=omega) only [go_sem,↓reduceIte,rq]
 ·refine call hT Qt (QtS hT hs hcs) 1000 fun v σ hv=>?_
  obtain ⟨rfl,t1,ht1,rfl⟩:=hv
  simp -implicitDefEqProofs (disch:=omega) only [go_sem,↓reduceIte,rq]
  refine call hT QM (Xj (by decide) (by rw [QlH]; exact Nat.le_add_left _ _) (QsN hT SO hL hok hS hC hCn hs hM)) 1000 fun v σ hv=>?_
  obtain ⟨u,t2,o1,ht2,rfl,rfl⟩:=hv
  unfold fml
  simp -implicitDefEqProofs (disch:=omega) only [go_sem,↓reduceIte,rA,rq,Qiq,Qcq,lC,lN,nA,cA,true_and,and_true]
  refine ⟨_,_,Qlp (kc:=12) (km:=14) rfl rfl rfl (by decide),14,u,_,by omega,rfl,?_⟩
  simp only [Y4,ZP,Qfc,QjL,Qh9,Qfb,QLF,ne_eq,rq,not_false_eq_true,hml]
  simp -implicitDefEqProofs (disch:=omega) only [go_sem,↓reduceIte,rq]
end
end Go.Proofs.YtoeicjlflmmmcaaGreatDoor
namespace Go.Proofs.YtoeicjlflmmmcaaGreatDoor
open Go Go.Am Go.Bl
set_option maxRecDepth 100000
variable {P:Program} {G:Nat→Option V}
set_option maxHeartbeats 1000000
section
attribute [local go_sem] nFq aZ lR Nat.mul_one zA zL decide_false decide_true gt_iff_lt Q3 Qob Qoa Qn9 Qn8 Qn7 Qn6 Qn5 Qn4
variable {x:Option Ob} {km j u i:Nat}
theorem rp_len:(List.replicate km none++[x]).length=km+1:=by simp
theorem QsT:(List.replicate km none++[x])[km]?=some x:=by simp
theorem QHZ {y:Option Ob}:(List.replicate km none++[x]).set km y=List.replicate km none++[y]:=by
 rw [List.set_append_right _ _ (by simp)]; simp
variable {M:List Bool}
theorem Qxh {b:Bool} (h:j<M.length):List.take j (nbs M)++[.bool b]++List.drop (j+1) (nbs M)=nbs (M.set j b):=by
 unfold nbs
 rw [List.map_set,List.set_eq_take_append_cons_drop,if_pos (by simpa using h)]
 simp
theorem Quh (h:j<M.length):(Bl.flip M j).set j (!((Bl.flip M j).getD j false))=M:=by
 rw [Qkz h,if_pos rfl]
 unfold Bl.flip
 rw [List.set_set,Bool.not_not,List.getD_eq_getElem?_getD,List.getElem?_eq_getElem h]
 simp
variable {S:St} {I:Int→Int→Bool}
theorem QzI (h:Ok I S) (hj:j<S.gs.length) (hf:¬ ((j:Int)+1)∈frT S.gs):S.cs.all (fun c=>c.any (lv (Bl.flip (mdl I S.gs) j)))=false:=by
 obtain ⟨g,hg⟩:∃ g,S.gs[j]?=some g:=⟨_,List.getElem?_eq_getElem hj⟩
 have hk:g.k≠0:=fun e=>hf (QK8.2 ⟨j,g,hg,e,rfl⟩)
 obtain ⟨c,h1,_,h3⟩:=h.df j g hg hk
 rw [List.all_eq_false]
 exact ⟨c,h1,by rw [h3]; decide⟩
def l4J (wl:List V) (wt:Bool) (Fl:List Int) (F:List (List Int)) (M:List Bool) (km u:Nat) (i:Nat) (fr:Fr) (σ:H):Prop :=
 ∃ t,σ=⟨t,List.replicate km none++[some (.arr u 4 (nbs M))]⟩∧Qd fr 2=.lst 1 wl wt∧Qd fr 17=.lst 1 (Qb Fl) false∧Qd fr 20=.ref (.agg [.int .i64 M.length,.lst 1 (F.map row) false]) 0∧Qd fr 21=.sl km u 0 1 M.length none∧Qd fr 22=.int .i64 ((i:Nat):Int)
def l4E (F:List (List Int)) (M:List Bool) (km u:Nat) (e:AE) (fr:Fr) (σ:H):Prop :=
 e=.ex 8∧∃ t,σ=⟨t,List.replicate km none++[some (.arr u 4 (nbs M))]⟩∧Qd fr 20=.ref (.agg [.int .i64 M.length,.lst 1 (F.map row) false]) 0∧Qd fr 21=.sl km u 0 1 M.length none
variable {σ:H} {fr:Fr}
theorem Qz3 (hT:Qe P tab) (hok:Ok I S) (hM:M=mdl I S.gs) (hgl:S.gs.length≤8000000) (hcl:S.cs.length≤1000000) {Ws:List Int} (hW:∀ w∈Ws,0≤w∧w≤65535) (hWl:Ws.length≤20) {wt:Bool} {w:Int} (hi:Ws[i]?=some w) (hJ:l4J (Ws.map (V.int .u16)) wt (frT S.gs) S.cs M km u i fr σ) :
 W P G 219 0 wj fr σ (Qbb (fun fr σ=>∃ fr' σ',Shift G 219 0 fr σ fr' σ'∧l4J (Ws.map (V.int .u16)) wt (frT S.gs) S.cs M km u (i+1) fr' σ') (l4E S.cs M km u)):=by
 obtain ⟨t,rfl,f2,f17,f20,f21,f22⟩:=hJ
 have hml:M.length=S.gs.length:=by rw [hM]; exact Zi _
 have hpos:=hok.wf.pos
 have hlt:=(List.getElem?_eq_some_iff.1 hi).1
 have hki:(i:Int)<Ws.length:=by omega
 have hk0:(0:Int)≤(i:Int):=by omega
 have hw:=QhJ hlt (by omega)
 have gw:(Ws.map (V.int .u16)).getD i V.any=.int .u16 w:=by simp [List.getD_eq_getElem?_getD,hi]
 obtain ⟨w0,w1⟩:=hW w (List.mem_of_getElem? hi)
 have ew:IntKind.i64.wrap w=w:=wrap_i64 (by omega) (by omega)
 have emax:(if (1:Int)<(M.length:Int) then (M.length:Int) else 1)=(M.length:Int):=by split <;> omega
 obtain ⟨j,hj,ej⟩:∃ j:Nat,j<M.length∧w.tmod M.length=(j:Int):=by
  rw [Int.tmod_eq_emod_of_nonneg w0]
  have h1:=Int.emod_nonneg w (show (M.length:Int)≠0 by omega)
  have h2:=Int.emod_lt_of_pos w (show 0<(M.length:Int) by omega)
  exact ⟨(w % M.length).toNat,by omega,by omega⟩
 have hv:IntKind.i64.wrap (1+(j:Int))=(j:Int)+1:=by rw [wrap_i64 (by omega) (by omega)]; omega
 have hv2:IntKind.i64.wrap ((j:Int)+1 - 1)=(j:Int):=by rw [wrap_i64 (by omega) (by omega)]; omega
 have hF:=QL8 (P:=P) (G:=G) hT (l:=frT S.gs) (n:=(j:Int)+1) (by have:=Qtr S.gs; omega)
 have hn0:¬ (M.length:Int)=0:=by omega
 have hgt:¬ (M.length:Int)<(j:Int)+1:=by omega
 have hj0:(0:Int)≤(j:Int):=by omega
 have hjl:(j:Int)<M.length:=by omega
 have gM:=Qbs (M:=M) hj
 have gF:=Qbs (M:=Bl.flip M j) (i:=j) (by rw [QcG]; exact hj)
 have pM:List.take j (nbs M)++[.bool (!M.getD j false)]++List.drop (j+1) (nbs M)=nbs (Bl.flip M j):=Qxh hj
 have pF:List.take j (nbs (Bl.flip M j))++[.bool (!(Bl.flip M j).getD j false)]++List.drop (j+1) (nbs (Bl.flip M j))=nbs M:=by rw [Qxh (by rw [QcG]; exact hj),Quh hj]
 refine Qh [(2,.lst 1 (Ws.map (V.int .u16)) wt),(17,.lst 1 (Qb (frT S.gs)) false),(20,.ref (.agg [.int .i64 M.length,.lst 1 (S.cs.map row) false]) 0),(21,.sl km u 0 1 M.length none),(22,.int .i64 ((i:Nat):Int))] ⟨f2,f17,f20,f21,f22,trivial⟩ 1000 ?_
 simp -implicitDefEqProofs (disch:=omega) only [go_sem,↓reduceIte,rA,rq,rL,lC,lN,lM,true_implies,and_true,not_false_eq_true,hki,hk0,hlt,Int.toNat_natCast,gw,ew,emax,ej,hv,hn0]
 refine Qy hT Yc hF (by simp [Qc,Qf]) 1000 ?_
 by_cases hm:(j:Int)+1∈frT S.gs
 ·simp -implicitDefEqProofs (disch:=omega) only [go_sem,↓reduceIte,rq,hm,hw]
  refine ⟨_,_,Shift.refl _ _ _ _,t,rfl,?_⟩
  simp -implicitDefEqProofs (disch:=omega) only [go_sem,↓reduceIte,rq]
 ·have hall:=QzI hok (by omega) hm
  rw [← hM] at hall
  simp -implicitDefEqProofs (disch:=omega) only [go_sem,↓reduceIte,reduceCtorEq,rA,rq,QsT,QHZ,lC,lN,false_implies,true_implies,true_and,and_true,hm,hgt,hv2,hj0,hj,Int.toNat_natCast,gM,Yp,pM]
  have hH:=QtE (P:=P) (G:=G) hT (F:=S.cs) (m:=Bl.flip M j) (by rw [QcG,hml]; exact hok.lits) (fun c hc=>by have:=hok.len c hc; omega) (by rw [QcG]; omega) (by omega)
  rw [hall,QcG] at hH
  unfold fml at hH
  refine QkB hT Qak hH (.cons _ _ _ _ (.same _ (by simp [Qf,Qc])) (.cons _ _ _ _ (QsS QsT (QcG M j).symm) .nil)) rfl 1000 ?_
  simp -implicitDefEqProofs (disch:=omega) only [go_sem,↓reduceIte,rq,QsT,QHZ,lC,lN,true_implies,true_and,and_true,hv2,hj0,hj,Int.toNat_natCast,gF,Yp,QcG,pF,hw]
  refine ⟨_,_,Shift.refl _ _ _ _,t,rfl,?_⟩
  simp -implicitDefEqProofs (disch:=omega) only [go_sem,↓reduceIte,rq]
theorem QLc (hT:Qe P tab) {wl:List V} {wt:Bool} {Fl:List Int} {F:List (List Int)} (hi:i=wl.length) (hJ:l4J wl wt Fl F M km u i fr σ) :
 W P G 219 0 wj fr σ (Qbb (fun _ _=>False) (l4E F M km u)):=by
 obtain ⟨t,rfl,f2,f17,f20,f21,f22⟩:=hJ
 refine Qh [(2,.lst 1 wl wt),(17,.lst 1 (Qb Fl) false),(20,.ref (.agg [.int .i64 M.length,.lst 1 (F.map row) false]) 0),(21,.sl km u 0 1 M.length none),(22,.int .i64 ((i:Nat):Int))] ⟨f2,f17,f20,f21,f22,trivial⟩  1000 ?_
 simp -implicitDefEqProofs (disch:=omega) only [go_sem,↓reduceIte,rq,hi,Int.lt_irrefl]
 exact ⟨rfl,t,rfl,rfl,rfl⟩
end
end Go.Proofs.YtoeicjlflmmmcaaGreatDoor
