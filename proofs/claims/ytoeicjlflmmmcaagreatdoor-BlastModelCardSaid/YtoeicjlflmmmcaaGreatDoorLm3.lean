/- The law BlastModel. -/
import Derived.Test.YtoeicjlflmmmcaaGreatDoorJ13
namespace Go.Proofs.YtoeicjlflmmmcaaGreatDoor
open Go Go.Am Go.Bl
set_option maxRecDepth 100000
set_option maxHeartbeats 1000000
variable {P:Program} {G:Nat→Option V}
section
attribute [local go_sem] Bool.not_false Bool.not_true Nat.add_zero Nat.le_refl Nat.zero_add Nat.zero_le beq_self_eq_true bne_self_eq_false QW zq0_0 zq0_1 Qlb Qla QBj Qk9 Qk8 Qk7 Qk6 Qk5 QBi QBh zq0_2 QBg QBf QBe QBd QBc QBb QBa QA9 QA8 Qk4 zq0_3 Qk3 Qk2 Qk1 Qk0 QkZ QkY QA7 QA6 QA5 zq0_4 zq0_5 QrK QrJ QrI QrH
theorem Qta {L:List Nd} {tv:Int→Int}:∀ (ids:List Int) (s:List Int × List Cl),(∀ id∈ids,i64 (tv id))→(∀ x∈s.1,i64 x)→(∀ c∈s.2,i64 c.n)→(∀ x∈(ids.foldl (enT L tv) s).1,i64 x)∧∀ c∈(ids.foldl (enT L tv) s).2,i64 c.n
 | [],_,_,h1,h2=>⟨h1,h2⟩
 | id::ids,s,h,h1,h2=>by
   rw [List.foldl_cons]
   have hid:=h id (by simp)
   refine Qta ids _ (fun i hi=>h i (by simp [hi])) (fun x hx=>?_) (fun c hc=>?_)
   ·unfold enT at hx
    split at hx
    ·rcases List.mem_or_eq_of_mem_set hx with hx | rfl
     ·rcases List.mem_append.1 hx with hx | hx
      ·exact h1 x hx
      ·rw [(List.mem_replicate.1 hx).2]; exact ⟨by decide,by decide⟩
     ·exact hid
    ·split at hx
     ·exact h1 x hx
     ·exact h1 x hx
   ·unfold enT at hc
    split at hc
    ·exact h2 c hc
    ·split at hc
     ·rcases List.mem_append.1 hc with hc | hc
      ·exact h2 c hc
      ·rw [List.mem_singleton.1 hc]; exact hid
     ·exact h2 c hc
theorem Qsl {L:List Nd} (h:L.length=0) (id:Int):Xj L [id]=[]:=by
 cases hu:Xj L [id] with
 | nil=>rfl
 | cons u U =>
   have:=Qas (L:=L) (roots:=[id]) u (by rw [hu]; simp)
   omega
theorem QBx {L:List Nd} (h:L.length=0) (s:Bs) (id:Int):blB L s id=s:=by
 unfold blB
 rw [Qsl h]; rfl
theorem QBw {I:Int→Int→Bool} {val:Int→Int} {cap:Nat} {L:List Nd} (h:L.length=0) {s:Bs} (hs:BInv I L val cap s) (id:Int):blV L s id=false:=by
 unfold blV
 rw [Qsl h]
 show (!List.any [] _&&(kL s.K id).isSome)=false
 cases hk:kL s.K id with
 | none=>rfl
 | some z=>have:=(hs.k.kn id z hk).1; omega
theorem Quh (hT:Qe P tab) (SO:Xb P) {I:Int→Int→Bool} {cap:Nat} {g:Gr} {val:Int→Int} (cx:Ctx I g.L val) {s:Bs} (hs:BInv I g.L val cap s) (h:g.L.length=0) {t:Nat} {B:Bv} {e:Nat} {id:Int} :
 C P G 5 Xy [.ptr 7 g.b 0,.int .i64 id] ⟨t,bT' g B s e⟩ fun v σ=>v=.tup [.int .i64 0,.bool false]∧∃ t' B' e',t≤t'∧σ=⟨t',bT' g B' s e'⟩:=by
 have:=QuT (P:=P) (G:=G) hT SO cx hs (by omega) (t:=t) (B:=B) (e:=e) (QBw h hs id)
 rwa [QBx h] at this
theorem Qr5 (hT:Qe P tab) (SO:Xb P) {I:Int→Int→Bool} {cap:Nat} {g:Gr} {val:Int→Int} (cx:Ctx I g.L val) {s:Bs} (hs:BInv I g.L val cap s) (h:g.L.length=0) {t:Nat} {B:Bv} {e:Nat} {x y:Int} :
 C P G 5 Xn [.ptr 7 g.b 0,.int .i64 x,.int .i64 y] ⟨t,bT' g B s e⟩ fun v σ=>v=.tup [.int .i64 0,.bool false]∧∃ t' B' e',t≤t'∧σ=⟨t',bT' g B' s e'⟩:=by
 have:=QsD (P:=P) (G:=G) (y:=y) hT SO cx hs (by omega) (t:=t) (B:=B) (e:=e) (QBw h hs x)
 rwa [QBx h] at this
theorem Qlq (hT:Qe Tryz.prog tab) {I:Int→Int→Bool} {cap:Nat} {g:Gr} {val:Int→Int} {s:Bs} (hs:BInv I g.L val cap s) (hcs:0<s.S.cs.length) {t:Nat} {B:Bv} {e:Nat} :
 C Tryz.prog G 5 XM [.ptr 7 g.b 0] ⟨t,bT' g B s e⟩ fun v σ=>v=fml s.S.gs.length s.S.cs∧∃ t',t≤t'∧σ=⟨t',bT' g B s e⟩:=by
 have h1:=hs.c
 have h2:=hs.g
 have h3:=hs.hc
 refine Qp4 hT hcs (by omega) (by omega) fun c hc=>⟨fun e=>?_,hs.k.ok.len c hc⟩
 have:=hs.k.ok.sat c hc
 rw [e] at this
 cases this
theorem QoT (hT:Qe P tab) {I:Int→Int→Bool} {cap:Nat} {L:List Nd} {val:Int→Int} {s:Bs} (hs:BInv I L val cap s) {M:List Bool} (hM:M=mdl I s.S.gs) :
 Pure P G Qbp [fml s.S.gs.length s.S.cs,.lst 1 (nbs M) false] fun u=>u=.bool true:=by
 have h1:=hs.c
 have h2:=hs.g
 have h3:=hs.hc
 have hml:M.length=s.S.gs.length:=by rw [hM]; exact Qa6 _
 have:=Qvv (P:=P) (G:=G) hT (F:=s.S.cs) (m:=M) (by rw [hml]; exact hs.k.ok.lits) (by rw [hM]; exact hs.k.ok.sat) (fun c hc=>by have:=hs.k.ok.len c hc; omega) (by omega) (by omega)
 rwa [hml] at this
theorem Qr4 (hT:Qe P tab) (SO:Xb P) {val:Int→Int} {cap:Nat} {g:Gr} {s:Bs} (hL:g.L.length≤1000000) (hok:okN g.L) {Sy:List Int} (hS:∀ x∈Sy,i64 x) {C':List Cl} (hC:C'.length≤1000000) (hCn:∀ c∈C',i64 c.n) {tS tC:Bool} (hs:BInv (QbU Sy C' g.L) g.L val cap s) {M:List Bool} (hM:M=mdl (QbU Sy C' g.L) s.S.gs) {t:Nat} {B:Bv} {e:Nat} :
 C P G 5 Yg [.ptr 7 g.b 0,.agg [.lst 1 (Qb Sy) tS,.lst 4 (C'.map Cl.v) tC]] ⟨t,bT' g B s e⟩ fun v σ=>v=.lst 1 (nbs M) false∧∃ t',t≤t'∧σ=⟨t',bT' g B s e⟩:=by
 have h2:=hs.g
 have h3:=hs.hc
 subst hM
 exact Qpe hT SO hL hok Sy hS tS C' hC hCn tC hs.k.ok.wf (by omega)
theorem nd_sym {L:List Nd} (hok:okN L) (hnf:Qg3 L) (id:Int) (h2:(nd L id).kind=2):0≤(nd L id).n∧(nd L id).n≤65536:=by
 have e:nd L id=nd L ((id.toNat:Nat):Int):=by unfold nd; rw [Int.toNat_natCast]
 rw [e] at h2 ⊢
 generalize id.toNat=j at *
 rcases Nat.lt_or_ge j L.length with hj | hj
 ·have hg:=QBz (L:=L) (x:=(j:Int)) (by omega) (by omega)
  obtain ⟨-,-,hm⟩:=hok _ _ hg
  have hf:=hnf j (by omega) (by omega)
  unfold QfD at hf
  rw [decide_eq_true h2,Bool.true_and] at hf
  have hf2:=of_decide_eq_false hf
  have e1:¬ (2:Int)=1:=by decide
  simp only [Nd.may,h2,e1,if_false,if_true,Bool.and_eq_true,decide_eq_true_eq] at hm
  exact ⟨hm.2,by omega⟩
 ·have:(nd L (j:Int)).kind=0:=by unfold nd; rw [Int.toNat_natCast,List.getD_eq_getElem?_getD,List.getElem?_eq_none hj]; rfl
  omega
theorem q_Env (hT:Qe P tab) (SO:Xb P) {cap:Nat} {g:Gr} (hok:okN g.L) (hnf:Qg3 g.L) (hL:g.L.length≤1000000) {Sy:List Int} (hS:∀ x∈Sy,i64 x) {C':List Cl} (hCn:∀ c∈C',i64 c.n) {s:Bs} (hs:BInv (QbU Sy C' g.L) g.L (val Sy C' g.L) cap s) (hk:∀ j:Int,0≤j→j<g.L.length→(kL s.K j).isSome=true) {M:List Bool} (hM:M=mdl (QbU Sy C' g.L) s.S.gs) {t:Nat} {B:Bv} {e:Nat} :
 C P G 5 XU [.ptr 7 g.b 0,.lst 1 (nbs M) false] ⟨t,bT' g B s e⟩ fun v σ=>∃ S2 C2,v=.agg [.lst 1 (Qb S2) false,.lst 4 (C2.map Cl.v) false]∧((∀ x∈S2,i64 x)∧C2.length≤1000000∧(∀ c∈C2,i64 c.n)∧∀ id:Int,0≤id→id<g.L.length→val S2 C2 g.L id=val Sy C' g.L id)∧∃ t',t≤t'∧σ=⟨t',bT' g B s e⟩:=by
 have cx:=QkJ hok hS hCn
 have h2:=hs.g
 have h3:=hs.hc
 have h4:=hs.kl
 have hL2:=nd_sym hok hnf
 have hml:M.length=s.S.gs.length:=by rw [hM]; exact Qa6 _
 refine (k_Env hT SO cx hs.k hml (by omega) (by omega) hL2).conseq fun v σ ⟨ids,hids,hil,hv,hσ⟩=>?_
 have hids':∀ x:Int,x∈ids↔0≤x∧x<g.L.length:=fun x=>by
  rw [hids x]
  exact ⟨fun h=>(hs.k.get h).1,fun h=>hk x h.1 h.2⟩
 have htv:∀ id:Int,0≤id→id<g.L.length→tlS M (kx s.K id) 64=val Sy C' g.L id:=fun id h0 h1=>by
  obtain ⟨-,-,t⟩:=hs.k.get (hk id h0 h1)
  rw [← hM] at t
  exact tl_val t (cx.v64 id)
 have hi:=Qta (L:=g.L) (tv:=fun id=>tlS M (kx s.K id) 64) ids ([],[]) (fun id hid=>by
  obtain ⟨h0,h1⟩:=(hids' id).1 hid
  show i64 (tlS M (kx s.K id) 64)
  rw [htv id h0 h1]
  exact cx.v64 id) (by simp) (by simp)
 have hle:(enF g.L (fun id=>tlS M (kx s.K id) 64) ids).2.length≤([]:List Cl).length+ids.length:=(Qnp (L:=g.L) (tv:=fun id=>tlS M (kx s.K id) 64) (fun id h2=>(hL2 id h2).2) ids ([],[]) (by simp)).2
 rw [List.length_nil,Nat.zero_add] at hle
 have hb:=fun id h0 h1=>Qtz (L:=g.L) hok (Sy:=Sy) (C':=C') hids' htv (fun id h=>(hL2 id h).1) (id.toNat+1) id (by omega) h0 h1
 exact ⟨_,_,hv,⟨hi.1,Nat.le_trans hle hil,hi.2,hb⟩,hσ⟩
theorem Qtg (a b:Int):decide (a≠b)=(a != b):=by by_cases h:a=b <;> simp [h]
theorem q_New (hT:Qe P tab) {fmt:Int→List UInt8} {v0 v1 v2 v3 v4 t:Nat} {L:List Nd} :
 C P G 5 QeX [.ptr 1 v0 0] ⟨t,kG fmt v0 v1 v2 v3 v4 L⟩ fun v σ=>∃ (g:Gr) (t':Nat) (B:Bv) (e:Nat),g.L=L∧v0=g.v0∧t≤t'∧v=.ptr 7 g.b 0∧σ=⟨t',bT' g B b0 e⟩ :=
 (k_New hT).conseq fun v σ ⟨m,k,b,n,t',B,e,ht,hv,hσ⟩=>⟨⟨fmt,v0,v1,v2,v3,v4,m,k,b,n,L⟩,t',B,e,rfl,rfl,ht,hv,hσ⟩
theorem Qmv (hT:Qe Tryz.prog tab) (F:Fmt Tryz.prog G) (SO:Xb Tryz.prog) (l:List Nd) (tl:Bool) (hl:∀ d∈l,i64 d.n∧i64 d.a) (hll:l.length≤9223372036854775807) (Sy:List Int) (tS:Bool) (C':List Cl) (tC:Bool) (hS:∀ x∈Sy,i64 x) (hCn:∀ c∈C',i64 c.n) (x y:Int) :
 Pure Tryz.prog G Y4 [.lst 6 (l.map fun d=>.agg d.cells) tl,QhC Sy tS 4 C' tC,.int .i64 x,.int .i64 y] fun v=>v=.bool true:=by
 intro t
 have hW:=Qtq (P:=Tryz.prog) (G:=G) hT F SO
 have hf:=c_few (P:=Tryz.prog) (G:=G) (tl:=tl) (S:=Sy) (tS:=tS) (C':=C') (tC:=tC) (top:=14) hT hll
 refine Qh 0 (Nat.zero_le _) (Qq hT QaZ (by simp [QW]) (Qn 20 ?_))
 unfold QhC at hf ⊢
 simp -implicitDefEqProofs (disch:=omega) only [go_sem,↓reduceIte,reduceCtorEq,Nat.reduceAdd,Nat.reduceEqDiff,List.length_cons,List.length_nil,List.nil_append,false_implies,and_true]
 cases hfb:fewB l Sy C' 14 with
 | false =>
   rw [hfb] at hf
   refine QY hT Zo hf (by simp [Qc,Qd]) 1000 ?_
   simp -implicitDefEqProofs (disch:=omega) only [go_sem,↓reduceIte,reduceCtorEq,Nat.reduceEqDiff]
   refine QY hT Xk hW rfl 1000 ?_
   simp -implicitDefEqProofs (disch:=omega) only [go_sem,↓reduceIte,reduceCtorEq,Nat.reduceEqDiff,List.length_cons,List.length_nil,and_true]
 | true =>
   rw [hfb] at hf
   refine QY hT Zo hf (by simp [Qc,Qd]) 4 ?_
   simp -implicitDefEqProofs (disch:=omega) only [go_sem,↓reduceIte,reduceCtorEq,Nat.reduceEqDiff]
   have hl14:l.length≤14∧mulN l≤2∧Sy.length≤60∧C'.length≤60:=by
    unfold fewB at hfb
    simp only [Bool.and_eq_true,decide_eq_true_eq] at hfb
    omega
   have hL14:=QuA l
   have hm2:=Quz l
   have hok:=QoY l hl
   refine XT (Shift.freeze (k:=0) (v:=t) (T:=26) (cs:=[.lst 1 (Qb Sy) tS,.lst 4 (C'.map Cl.v) tC]) (Nat.zero_le _) rfl rfl) ?_
   simp only [List.set_cons_zero,Qd3,Qf3,Qpm,Qpn,Qkw,Qpl,QT,Option.map_none]
   refine XT (Shift.drop (o':=[]) (t':=t+1) (by simp [Qbg]) (Nat.le_refl _) (Nat.zero_le _)) (Qs 1000 ?_)
   simp -implicitDefEqProofs (disch:=omega) only [go_sem,↓reduceIte,reduceCtorEq,Nat.reduceEqDiff]
   refine call hT ZD (Qts hT F l tl hl (by omega)) 1000 fun v σ hv=>?_
   obtain ⟨v0,v1,v2,v3,v4,t1,ht1,rfl,rfl⟩:=hv
   simp -implicitDefEqProofs (disch:=omega) only [go_sem,↓reduceIte,reduceCtorEq,Nat.reduceAdd,Nat.reduceEqDiff,Nat.reduceLT,List.length_cons,List.length_nil]
   refine call hT QeS (YS (by decide) (by simp [kG]) (q_New hT)) 1000 fun v σ hv=>?_
   obtain ⟨g,t2,B2,e2,hgL,hv0,ht2,rfl,rfl⟩:=hv
   subst hv0
   rw [← hgL] at hok hL14 hm2
   have cx:=QkJ hok hS hCn
   have i0:BInv (QbU Sy C' g.L) g.L (val Sy C' g.L) 400000 b0:=inv0 (by omega) (by omega)
   simp -implicitDefEqProofs (disch:=omega) only [go_sem,↓reduceIte,reduceCtorEq,Nat.reduceEqDiff]
   refine XK g.L.length (l1J g B2 e2 x y (eR Sy tS C' tC)) (l1E g B2 e2 x y (eR Sy tS C' tC)) ⟨t2,rfl,fun j j0 j1=>absurd j1 (by omega),by simp -implicitDefEqProofs (disch:=omega) only [go_sem,↓reduceIte,reduceCtorEq,Nat.reduceEqDiff],by simp -implicitDefEqProofs (disch:=omega) only [go_sem,↓reduceIte,reduceCtorEq,Nat.reduceEqDiff],by simp -implicitDefEqProofs (disch:=omega) only [go_sem,↓reduceIte,reduceCtorEq,Nat.reduceEqDiff],by simp -implicitDefEqProofs (disch:=omega) only [go_sem,↓reduceIte,reduceCtorEq,Nat.reduceEqDiff],by simp -implicitDefEqProofs (disch:=omega) only [go_sem,↓reduceIte,reduceCtorEq,Nat.reduceEqDiff],by simp -implicitDefEqProofs (disch:=omega) only [go_sem,↓reduceIte,reduceCtorEq,Nat.reduceEqDiff]; rfl⟩ (fun i hi fr σ hJ=>QuJ hT F SO cx i0 (by omega) hi hJ) (fun i hi fr σ hJ=>QDb hT hi hJ) (fun e fr σ hE=>?_)
   rcases hE with ⟨rfl,f8⟩ | ⟨rfl,hnf,t3,rfl,f2,f3,f5,f9,f11⟩
   ·refine Qs 1000 ?_
    simp -implicitDefEqProofs (disch:=omega) only [go_sem,f8]
   refine YT [(2,.int .i64 x),(3,.int .i64 y),(5,eR Sy tS C' tC),(9,.ptr 1 g.v0 0),(11,.ptr 7 g.b 0)] ⟨f2,f3,f5,f9,f11,trivial⟩ 1000 ?_
   simp -implicitDefEqProofs (disch:=omega) only [go_sem,↓reduceIte,Nat.reduceEqDiff]
   refine XK g.L.length (l2J (QbU Sy C' g.L) (val Sy C' g.L) 400000 g x y (eR Sy tS C' tC)) (l2E (QbU Sy C' g.L) (val Sy C' g.L) 400000 g x y (eR Sy tS C' tC)) ⟨t3,b0,B2,e2,rfl,i0,Nat.one_pos,fun j j0 j1=>absurd j1 (by omega),by simp -implicitDefEqProofs (disch:=omega) only [go_sem,↓reduceIte],by simp -implicitDefEqProofs (disch:=omega) only [go_sem,↓reduceIte,Nat.reduceEqDiff],by simp -implicitDefEqProofs (disch:=omega) only [go_sem,↓reduceIte,Nat.reduceEqDiff],by simp -implicitDefEqProofs (disch:=omega) only [go_sem,↓reduceIte,Nat.reduceEqDiff],by simp -implicitDefEqProofs (disch:=omega) only [go_sem,↓reduceIte,Nat.reduceEqDiff],by simp -implicitDefEqProofs (disch:=omega) only [go_sem,↓reduceIte,Nat.reduceEqDiff]; rfl⟩ (fun i hi fr σ hJ=>QuI hT SO cx hnf (by omega) hi hJ) (fun i hi fr σ hJ=>QDa hT hi hJ) (fun e fr σ hE=>?_)
   obtain ⟨rfl,t4,s,B4,e4,rfl,hs,hcs,hk,f2,f3,f5,f9,f11⟩:=hE
   refine YT [(2,.int .i64 x),(3,.int .i64 y),(5,eR Sy tS C' tC),(9,.ptr 1 g.v0 0),(11,.ptr 7 g.b 0)] ⟨f2,f3,f5,f9,f11,trivial⟩ 1000 ?_
   simp -implicitDefEqProofs (disch:=omega) only [go_sem,↓reduceIte,Nat.reduceEqDiff]
   refine call hT QE (QeI hT) 1000 fun v σ hv=>?_
   obtain ⟨rfl,t5,ht5,rfl⟩:=hv
   simp -implicitDefEqProofs (disch:=omega) only [go_sem,↓reduceIte,Nat.reduceEqDiff]
   refine QY hT ZC (QB3 hT (by omega)) rfl 1000 ?_
   simp -implicitDefEqProofs (disch:=omega) only [go_sem,↓reduceIte,Nat.reduceEqDiff]
   refine call hT QE (QeI hT) 1000 fun v σ hv=>?_
   obtain ⟨rfl,t6,ht6,rfl⟩:=hv
   simp -implicitDefEqProofs (disch:=omega) only [go_sem,↓reduceIte,Nat.reduceEqDiff]
   refine QY hT ZC (QB3 hT (by omega)) rfl 1000 ?_
   simp -implicitDefEqProofs (disch:=omega) only [go_sem,↓reduceIte,Nat.reduceEqDiff]
   by_cases hz:g.L.length=0
   ·refine call hT Xu (YS (by decide) (by rw [ZB]; decide) (Quh hT SO cx hs hz)) 1000 fun v σ hv=>?_
    obtain ⟨rfl,t7,B7,e7,ht7,rfl⟩:=hv
    simp -implicitDefEqProofs (disch:=omega) only [go_sem,↓reduceIte,Nat.reduceAdd,Nat.reduceEqDiff,Nat.reduceLT,List.length_cons,List.length_nil]
    refine call hT Xm (YS (by decide) (by rw [ZB]; decide) (Qr5 hT SO cx hs hz)) 1000 fun v σ hv=>?_
    obtain ⟨rfl,t8,B8,e8,ht8,rfl⟩:=hv
    simp -implicitDefEqProofs (disch:=omega) only [go_sem,↓reduceIte,reduceCtorEq,Nat.reduceAdd,Nat.reduceEqDiff,Nat.reduceLT,List.length_cons,List.length_nil,false_implies,and_true]
    obtain ⟨M,hM⟩:∃ M,M=mdl (QbU Sy C' g.L) s.S.gs:=⟨_,rfl⟩
    refine call hT Yd (YS (by decide) (by rw [ZB]; decide) (Qr4 hT SO (by omega) hok hS (by omega) hCn hs hM)) 1000 fun v σ hv=>?_
    obtain ⟨rfl,t9,ht9,rfl⟩:=hv
    simp -implicitDefEqProofs (disch:=omega) only [go_sem,↓reduceIte,Nat.reduceEqDiff]
    refine call hT YD (YS (by decide) (by rw [ZB]; decide) (Qlq hT hs hcs)) 3 fun v σ hv=>?_
    obtain ⟨rfl,t10,ht10,rfl⟩:=hv
    unfold fml
    simp -implicitDefEqProofs (disch:=omega) only [go_sem,↓reduceIte,Nat.reduceAdd,Nat.reduceEqDiff,ZB,QqC,Qhr,List.length_cons,List.length_nil,List.nil_append,List.cons_append,and_true]
    refine XT (Qkx rfl) ?_
    simp only [Qd3,Qf3,Qpm,Qpn,Qkw,QsR,QsS,Qpl,ne_eq,Nat.reduceEqDiff,not_false_eq_true]
    refine Qs 1000 ?_
    simp -implicitDefEqProofs (disch:=omega) only [go_sem,↓reduceIte,Nat.reduceEqDiff]
    refine call hT QE (QeI hT) 1000 fun v σ hv=>?_
    obtain ⟨rfl,t11,ht11,rfl⟩:=hv
    have hH:=QoT (P:=Tryz.prog) (G:=G) hT hs hM
    unfold fml at hH
    have hz':(g.L.length:Int)=0:=by omega
    simp -implicitDefEqProofs (disch:=omega) only [go_sem,↓reduceIte,reduceCtorEq,Nat.reduceAdd,Nat.reduceEqDiff,List.length_cons,List.length_nil,false_implies,and_true,hz']
    refine QY hT Qbm hH (by simp [Qc,Qd]) 1000 ?_
    simp -implicitDefEqProofs (disch:=omega) only [go_sem,↓reduceIte,Nat.reduceAdd,Nat.reduceEqDiff]
    refine QY hT Xk hW rfl 1000 ?_
    simp -implicitDefEqProofs (disch:=omega) only [go_sem,↓reduceIte,Nat.reduceEqDiff,ZB,and_true]
   ·obtain ⟨p0,p1⟩:=Qr8 (i:=x) hz
    obtain ⟨q0,q1⟩:=Qr8 (i:=y) hz
    generalize Qlt x g.L.length=p at *
    generalize Qlt y g.L.length=q at *
    have hTr:=fun t B e=>Qr3 (P:=Tryz.prog) (G:=G) (t:=t) (B:=B) (e:=e) hT SO cx hnf hs (by omega) p0 p1
    obtain ⟨i1,u1,l1,w1⟩:=tr_ok cx hnf hs (by omega) p0 p1
    refine call hT Xu (YS (by decide) (by rw [ZB]; decide) (hTr _ _ _)) 1000 fun v σ hv=>?_
    clear hTr
    obtain ⟨rfl,t7,B7,e7,ht7,rfl⟩:=hv
    generalize trS g.L s p=r1 at *
    simp -implicitDefEqProofs (disch:=omega) only [go_sem,↓reduceIte,Nat.reduceAdd,Nat.reduceEqDiff,Nat.reduceLT,List.length_cons,List.length_nil]
    have hDf:=fun t B e=>QoU (P:=Tryz.prog) (G:=G) (t:=t) (B:=B) (e:=e) hT SO cx hnf i1 (by omega) p0 p1 q0 q1
    obtain ⟨i2,u2,l2,w2⟩:=df_ok cx hnf i1 (by omega) p0 p1 q0 q1
    refine call hT Xm (YS (by decide) (by rw [ZB]; decide) (hDf _ _ _)) 1000 fun v σ hv=>?_
    clear hDf
    obtain ⟨rfl,t8,B8,e8,ht8,rfl⟩:=hv
    generalize dfS g.L r1.1 p q=r2 at *
    simp -implicitDefEqProofs (disch:=omega) only [go_sem,↓reduceIte,reduceCtorEq,Nat.reduceAdd,Nat.reduceEqDiff,Nat.reduceLT,List.length_cons,List.length_nil,false_implies,and_true]
    obtain ⟨M,hM⟩:∃ M,M=mdl (QbU Sy C' g.L) r2.1.S.gs:=⟨_,rfl⟩
    refine call hT Yd (YS (by decide) (by rw [ZB]; decide) (Qr4 hT SO (by omega) hok hS (by omega) hCn i2 hM)) 1000 fun v σ hv=>?_
    obtain ⟨rfl,t9,ht9,rfl⟩:=hv
    simp -implicitDefEqProofs (disch:=omega) only [go_sem,↓reduceIte,Nat.reduceEqDiff]
    refine call hT YD (YS (by decide) (by rw [ZB]; decide) (Qlq hT i2 (Nat.lt_of_lt_of_le hcs (u1.trans u2).c.length_le))) 3 fun v σ hv=>?_
    obtain ⟨rfl,t10,ht10,rfl⟩:=hv
    unfold fml
    simp -implicitDefEqProofs (disch:=omega) only [go_sem,↓reduceIte,Nat.reduceAdd,Nat.reduceEqDiff,ZB,QqC,Qhr,List.length_cons,List.length_nil,List.nil_append,List.cons_append,and_true]
    refine XT (Qkx rfl) ?_
    simp only [Qd3,Qf3,Qpm,Qpn,Qkw,QsR,QsS,Qpl,ne_eq,Nat.reduceEqDiff,not_false_eq_true]
    refine Qs 1000 ?_
    simp -implicitDefEqProofs (disch:=omega) only [go_sem,↓reduceIte,Nat.reduceEqDiff]
    refine call hT QE (QeI hT) 1000 fun v σ hv=>?_
    obtain ⟨rfl,t11,ht11,rfl⟩:=hv
    have hH:=QoT (P:=Tryz.prog) (G:=G) hT i2 hM
    unfold fml at hH
    have hz':¬ (g.L.length:Int)=0:=by omega
    have hml:M.length=r2.1.S.gs.length:=by rw [hM]; exact Qa6 _
    simp -implicitDefEqProofs (disch:=omega) only [go_sem,↓reduceIte,reduceCtorEq,Nat.reduceAdd,Nat.reduceEqDiff,Nat.reduceLeDiff,ZB,List.length_cons,List.length_nil,false_implies,true_implies,true_and,and_true,not_false_eq_true,hz',Ym,hml]
    refine QY hT Qbm hH (by simp [Qc,Qd]) 1000 ?_
    simp -implicitDefEqProofs (disch:=omega) only [go_sem,↓reduceIte,Nat.reduceAdd,Nat.reduceEqDiff]
    have hk2:∀ j:Int,0≤j→j<g.L.length→(kL r2.1.K j).isSome=true:=fun j j0 j1=>(u1.trans u2).some (hk j j0 j1)
    refine call hT Qa2 (YS (by decide) (by rw [ZB]; decide) (q_Env hT SO hok hnf (by omega) hS hCn i2 hk2 hM)) 3 fun v σ hv=>?_
    obtain ⟨S2,C2,rfl,⟨hS2,hC2,hC2n,hb⟩,t12,ht12,rfl⟩:=hv
    simp -implicitDefEqProofs (disch:=omega) only [go_sem,↓reduceIte,Nat.reduceAdd,Nat.reduceEqDiff,ZB,QqC,Qhr,List.length_cons,List.length_nil,List.nil_append,List.cons_append,and_true]
    refine XT (Qkx rfl) ?_
    simp only [Qd3,Qf3,Qpm,Qpn,Qkw,QsR,QsS,Qpl,ne_eq,Nat.reduceEqDiff,not_false_eq_true]
    refine Qs 1000 ?_
    simp -implicitDefEqProofs (disch:=omega) only [go_sem,↓reduceIte,Nat.reduceEqDiff]
    refine XK g.L.length (l3J Sy tS C' tC M S2 C2 p q r1.2 r2.2 g r2.1) (l3E Sy tS C' tC M p q r1.2 r2.2 g r2.1) ⟨_,_,_,rfl,by simp -implicitDefEqProofs (disch:=omega) only [go_sem,↓reduceIte,Nat.reduceEqDiff],by simp -implicitDefEqProofs (disch:=omega) only [go_sem,↓reduceIte,Nat.reduceEqDiff],by simp -implicitDefEqProofs (disch:=omega) only [go_sem,↓reduceIte,Nat.reduceEqDiff],by simp -implicitDefEqProofs (disch:=omega) only [go_sem,↓reduceIte,Nat.reduceEqDiff],by simp -implicitDefEqProofs (disch:=omega) only [go_sem,↓reduceIte,Nat.reduceEqDiff],by simp -implicitDefEqProofs (disch:=omega) only [go_sem,↓reduceIte,Nat.reduceEqDiff],by simp -implicitDefEqProofs (disch:=omega) only [go_sem,↓reduceIte,Nat.reduceEqDiff],by simp -implicitDefEqProofs (disch:=omega) only [go_sem,↓reduceIte,Nat.reduceEqDiff],by simp -implicitDefEqProofs (disch:=omega) only [go_sem,↓reduceIte,Nat.reduceEqDiff],by simp -implicitDefEqProofs (disch:=omega) only [go_sem,↓reduceIte,Nat.reduceEqDiff]; rfl⟩ (fun i hi fr σ hJ=>QuH hT SO hok hS (by omega) hCn hnf (by omega) hS2 hC2 hC2n hb i2 hk2 hM hi hJ) (fun i hi fr σ hJ=>QC9 hT hi hJ) (fun e fr σ hE=>?_)
    obtain ⟨rfl,t13,B13,e13,rfl,f5,f9,f11,f20,f21,f22,f24,f26⟩:=hE
    obtain ⟨l1',w1'⟩:=u2.lv (I:=QbU Sy C' g.L) l1
    rw [w1,← hM] at w1'
    rw [← hM] at w2
    rw [← hml] at l1' l2
    have h2:=i2.g
    have h3:=i2.hc
    have hH1:=QdE (P:=Tryz.prog) (G:=G) hT l1' (by omega)
    have hH2:=QdE (P:=Tryz.prog) (G:=G) hT l2 (by omega)
    rw [w1',Qtg] at hH1
    rw [w2,Qtg] at hH2
    refine YT [(5,eR Sy tS C' tC),(9,.ptr 1 g.v0 0),(11,.ptr 7 g.b 0),(20,.int .i64 p),(21,.int .i64 q),(22,.int .i64 r1.2),(24,.int .i64 r2.2),(26,.lst 1 (nbs M) false)] ⟨f5,f9,f11,f20,f21,f22,f24,f26,trivial⟩ 1000 ?_
    simp -implicitDefEqProofs (disch:=omega) only [go_sem,↓reduceIte,reduceCtorEq,Nat.reduceAdd,Nat.reduceEqDiff,List.length_cons,List.length_nil,false_implies,and_true]
    refine call hT QaQ (q_Of hT SO (by omega) hok hS (by omega) hCn p0 p1) 1000 fun v σ hv=>?_
    obtain ⟨rfl,t14,ht14,rfl⟩:=hv
    simp -implicitDefEqProofs (disch:=omega) only [go_sem,↓reduceIte,reduceCtorEq,Nat.reduceAdd,Nat.reduceEqDiff,Nat.reduceLT,List.length_cons,List.length_nil,false_implies,and_true]
    refine call hT QaQ (q_Of hT SO (by omega) hok hS (by omega) hCn q0 q1) 1000 fun v σ hv=>?_
    obtain ⟨rfl,t15,ht15,rfl⟩:=hv
    simp -implicitDefEqProofs (disch:=omega) only [go_sem,↓reduceIte,Nat.reduceAdd,Nat.reduceEqDiff,Nat.reduceLT,List.length_cons,List.length_nil]
    refine QY hT QU hH1 (by simp [Qc,Qd]) 1000 ?_
    simp -implicitDefEqProofs (disch:=omega) only [go_sem,↓reduceIte,Nat.reduceAdd,Nat.reduceEqDiff]
    refine QY hT QU hH2 (by simp [Qc,Qd]) 1000 ?_
    simp -implicitDefEqProofs (disch:=omega) only [go_sem,↓reduceIte,Nat.reduceAdd,Nat.reduceEqDiff]
    refine QY hT Xk hW rfl 1000 ?_
    simp -implicitDefEqProofs (disch:=omega) only [go_sem,↓reduceIte,Nat.reduceEqDiff,ZB,and_true]
end
end Go.Proofs.YtoeicjlflmmmcaaGreatDoor
