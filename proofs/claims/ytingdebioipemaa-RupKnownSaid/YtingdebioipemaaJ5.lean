/- Contracts: Short. -/
import Derived.Test.YtingdebioipemaaJ4
import Derived.Test.YtingdebioipemaaShI
import Derived.Test.YtingdebioipemaaAmD
import Derived.Test.YtingdebioipemaaTabEq
import Derived.Test.YtingdebioipemaaJ1
open Nat renaming reduceEqDiff → rq, reduceAdd → rA, reduceLeDiff → rL, reduceLT → rTq, zero_add → zA, le_refl → lR, zero_le → zL, add_zero → aZ
open List renaming length_cons → lC, length_nil → lN, take_succ_cons → tS, length_append → lA, nil_append → nA, cons_append → cA, append_assoc → aA, take_nil → tN, take_zero → tZ, length_map → lM
open Bool renaming not_false → nF, not_true → nT
namespace Go.Proofs.Ytingdebioipemaa
open Go Go.Am Go.Cl
set_option maxRecDepth 100000
variable {G:Nat→Option V}
section
attribute [local go_sem] Ql3
abbrev shN (t:Nat) (v:Int) (F p:List (List Int)):AE→Fr→H→Prop:=fun e fr σ=>e=.nrm∧Qg fr 6=.ptr 2 (t+2) 0∧Qg fr 9=.ptr 3 (t+3) 0∧Qg fr 34=.fn (.func Qb0) [] [.ptr 4 (t+4) 0] ∧
 σ=⟨t+5,shG t v F (p.map row) p.length++[some (.arr (t+4) 3 [.int .i64 p.length])]⟩
theorem QwK (hT:Qj Try.prog tab) (t:Nat) (v:Int) (F p:List (List Int)) {fr:Fr} (f1:Qg fr 1=.lst 1 (p.map row) false) (f6:Qg fr 6=.ptr 2 (t+2) 0) (f9:Qg fr 9=.ptr 3 (t+3) 0) :
 sem Try.prog G 46 0 (shN t v F p) [.ac (.reg Ql3 [32,33])] .nrm fr ⟨t+4,shG t v F (p.map row) p.length⟩:=by
 refine QjK [(6,.ptr 2 (t+2) 0),(9,.ptr 3 (t+3) 0),(1,.lst 1 (p.map row) false)] ⟨f6,f9,f1,trivial⟩ (Qc 1000 ?_)
 simp -implicitDefEqProofs (disch:=omega) only [go_sem,↓reduceIte,rq,lM]
 refine call hT Qia (c_back hT p.length) 1000 fun u σ hu=>?_
 obtain ⟨rfl,rfl⟩:=hu
 simp -implicitDefEqProofs (disch:=omega) only [go_sem,↓reduceIte,rq]
 exact ⟨rfl,rfl,rfl,rfl,rfl⟩
abbrev shR (t:Nat) (v:Int) (F p:List (List Int)):V→H→Prop:=fun u σ=>(Xc v F p=false∧u=.tup [.lst 0 [] true,.bool false]) ∨
 (Xc v F p=true∧∃ t' ys,Qd ys=true∧u=.tup [.sl 1 (t+1) 0 1 (Y1 v F (p.length - 1) p).length none,.bool true] ∧
  σ=⟨t',shG t v F ((Y1 v F (p.length - 1) p).map row++ys) (Y1 v F (p.length - 1) p).length++[some (.arr (t+4) 3 [.int .i64 p.length])]⟩)
theorem QqD {v:Int} {F p:List (List Int)} (h:Xc v F p=true):1≤p.length:=by
 cases p with
 | nil=>simp [Xc] at h
 | cons c p=>simp
set_option maxHeartbeats 2000000 in
theorem QlM (hT:Qj Try.prog tab) (t:Nat) (v:Int) (F p:List (List Int)) (hF:F.length+p.length≤1000) (hc:∀ c∈F,c.length≤1000) (hp:∀ c∈p,c.length≤1000) (hb:∀ c∈p,∀ n∈c,-9223372036854775808≤n∧n≤9223372036854775807) :
 C Try.prog G 0 Qb1 [fml v F,rows p] ⟨t,[]⟩ (shR t v F p):=by
 have hr2:Try.f11.results=#[.tmp 4,.tmp 5]:=rfl
 have hnt:Try.f11.ntmps=46:=rfl
 refine QxQ Try.func11 rfl (by rw [hnt]; simp) fun I ρ w a hR hF' hb'=>?_
 rw [hnt] at hF'
 refine Qk6 (xs:=[_,_,_,_,_]) (l:=shP) (n:=46) (M:=fun _=>false) (dd:=ZE) (by kernel_rfl) (sh_pre hT t v F p hF hc hp hb) hR hF' hb' (fun I1 ρ1 fr1 σ1 a1 w1 q1 q2 q3 q4 q5=>?_) (fun e I1 ρ1 fr1 σ1 a1 w1 he q1 q2 q3 q4 q5=>?_)
 ·rcases q5 with ⟨h,_⟩ | ⟨_,hck,f1,f6,f9,rfl⟩
  ·cases h
  have hpos:=QqD hck
  refine wp_seq ?_
  refine Qk6 (xs:=[_]) (l:=[.ac (.reg Ql3 [32,33])]) (n:=46) (M:=fun _=>false) (dd:=ZE) (by kernel_rfl) (QwK hT t v F p f1 f6 f9) q1 q2 q4 (fun I2 ρ2 fr2 σ2 a2 w2 r1 r2 r3 r4 r5=>?_) (fun e I2 ρ2 fr2 σ2 a2 w2 he r1 r2 r3 r4 r5=>absurd r5.1 he)
  obtain ⟨_,g6,g9,g34,rfl⟩:=r5
  refine wp_block ?_
  have hg:arg G fr2 (Qe (.tmp 34))=.fn (.func Qb0) [] [.ptr 4 (t+4) 0]:=g34
  refine Qrq (g:=.tmp 34) (ps:=#[35]) (fr:=fr2) (n:=46) (base:=0) (M:=fun _=>false) (dd:=ZE) (ca:=Qab) (cb:=Qaa) (by kernel_rfl) (by kernel_rfl) (by kernel_rfl) (by kernel_rfl) (fun q hq=>by simp at hq; subst hq; decide) hg (enters_of Try.func48 (by kernel_rfl) rfl)
   (p.length - 1) (fun k=>[.int .i64 ((p.length - 2 - k:Nat):Int)]) (fun k=>#[.int .i64 ((p.length - 2 - k:Nat):Int)]) (fun k I ρ=>?_) (fun k=>rfl) (rjJ t v F p)
   (fun lb W=>∃ b o,lb=#[.pointer (some ⟨b,o,none⟩)]∧W.cell? ⟨b,o,none⟩=some (.int .i64 p.length)) (fun k σ I ρ W lb hJ hR hC=>?_) (fun lb m l JJ W hBF hY h0=>?_) ?_ (fun k σ hk hJ=>QrO hT hF hc hp hb hk g6 g9 hJ) r1 r2 r4 (fun σ I' ρ' W' D hJ s1 s2 s3 s4 hDs hD=>?_)
  ·exact ⟨rfl,fun j v x h1 h2=>by
    match j,h1,h2 with
    | 0,h1,h2=>cases h1; cases h2; exact .int _ _ _
    | n+1,h1,h2=>simp at h1⟩
  ·obtain ⟨t',R,ys,_,_,_,_,_,_,_,rfl⟩:=hJ
   have hl1:lb.size=1:=hC.1.symm
   obtain ⟨q,rfl⟩:∃ q,lb=#[q]:=⟨lb[0],by
    apply Array.ext
    ·simp [hl1]
    ·intro j h1 h2
     have:j=0:=by omega
     subst this; rfl⟩
   obtain ⟨b,o,x,rfl,h1,h2⟩:=cell_of hR (k:=4) (j:=0) (cs:=[.int .i64 p.length]) rfl rfl (hC.2 0 _ q rfl rfl)
   cases h2
   exact ⟨b,o,rfl,h1⟩
  ·obtain ⟨b,o,rfl,hcell⟩:=hBF 0 W h0
   exact QqT p.length hpos (by omega) b o m l JJ W (fun k W h=>by
    obtain ⟨b',o',e,hh⟩:=hBF k W h
    simp at e
    obtain ⟨rfl,rfl⟩:=e
    exact hh) hY h0
  ·exact ⟨t+5,p,[],by omega,by omega,by rw [Nat.sub_zero],by omega,lR _,fun c h=>h,rfl,by rw [List.append_nil]⟩
  ·obtain ⟨t',R,ys,_,_,h3,_,_,_,h7,rfl⟩:=hJ
   rw [Nat.sub_self,Y1] at h3
   obtain ⟨b,o,x,hx1,hx2,hx3⟩:=cell_of s1 (k:=2) (j:=0) (cs:=[.sl 1 (t+1) 0 1 R.length none]) rfl rfl (g6▸s3.vals 6)
   have hsz:=s3.size
   have hlit:=lit_of a2.tmps
   rw [hsz] at hlit
   have hdf:=s3.defers
   generalize (fun j=>a2.tmps.getD j undef)=f at hlit
   have hlit2:a2.tmps=#[f 0,f 1,f 2,f 3,f 4,f 5,f 6,f 7,f 8,f 9,f 10,f 11,f 12,f 13,f 14,f 15,f 16,f 17,f 18,f 19,f 20,f 21,f 22,f 23,f 24,f 25,f 26,f 27,f 28,f 29,f 30,f 31,f 32,f 33,f 34,f 35,f 36,f 37,f 38,f 39,f 40,f 41,f 42,f 43,f 44,f 45]:=hlit.trans rfl
   have hf6:f 6=.pointer (some ⟨b,o,none⟩):=by rw [← hx1,hlit2]; rfl
   clear s3 hsz hlit hx1
   obtain ⟨T,ds⟩:=a2
   simp only at hlit2 hdf
   subst hlit2 hdf
   show (Code.seq _ Code.ret).wp Try.prog _ _ W'
   rw [hf6]
   go_wp2
   have z1:=q3.size
   have z2:=r3.size
   exact ⟨.inr rfl,I',ρ',_,s1,q3.trans (r3.trans s2),s4,.inr ⟨D,by omega,rfl,hD⟩,.tup [.sl 1 (t+1) 0 1 R.length none,.bool true],.tuple #[x,.bool true],Qvp hx3 (.bool _ _),fun W=>Qg5 hr2 _ W,.inr ⟨hck,t',ys,h7,by rw [h3],by rw [h3]⟩⟩
 ·rcases q5 with ⟨rfl,h1,h4,h5⟩ | ⟨rfl,_⟩
  ·refine ⟨.inr rfl,I1,ρ1,σ1,q1,q3,q4,.inl q2.defers,.tup [.lst 0 [] true,.bool false],_,Qvp (h4▸q2.vals 4) (h5▸q2.vals 5),Qg5 hr2 a1.tmps,.inl ⟨h1,rfl⟩⟩
  ·exact absurd rfl he
theorem X0:∀ R:List (List Int),Qd (R.map row)=true
 | []=>rfl
 | _::R=>by simpa [row,Qd,nameless,QbZ] using X0 R
theorem Qev:∀ {l m:List V},Qd l=true→Qd m=true→Qd (l++m)=true
 | [],m,_,h=>h
 | v::l,m,h1,h2=>by
   simp only [Qd,cA,Bool.and_eq_true] at h1 ⊢
   exact ⟨h1.1,Qev h1.2 h2⟩
theorem QlN (hT:Qj Try.prog tab) (v:Int) (F p:List (List Int)) (hF:F.length+p.length≤1000) (hc:∀ c∈F,c.length≤1000) (hp:∀ c∈p,c.length≤1000) (hb:∀ c∈p,∀ n∈c,-9223372036854775808≤n∧n≤9223372036854775807) :
 Pure Try.prog G Qb1 [fml v F,rows p] fun u=>u=.tup [rows (short v F p).1,.bool (short v F p).2]:=fun t=>by
 have h0:=Ql1 (Q2:=fun u σ=>(Xc v F p=false∧u=.tup [.lst 1 [] false,.bool false])∨(Xc v F p=true∧shR t v F p u σ)) (QlM (G:=G) hT t v F p hF hc hp hb) fun u σ hu=>by
  rcases hu with ⟨h,rfl⟩ | ⟨h,hh⟩
  ·exact ⟨_,.tup _ _ (.cons _ _ _ _ (.lst 0 1 [] [] true .nil (.inl rfl)) (.cons _ _ _ _ (.refl _) .nil)),.inl ⟨h,rfl⟩⟩
  ·exact ⟨u,.refl _,.inr ⟨h,.inr ⟨h,hh⟩⟩⟩
 refine QaA h0 fun u σ hu=>?_
 rcases hu with ⟨h,rfl⟩ | ⟨h,hu⟩
 ·exact .inl ⟨by simp [nameless,Qd],by simp [short,h,rows]⟩
 ·rcases hu with ⟨h',_⟩ | ⟨_,t',ys,hys,rfl,rfl⟩
  ·rw [h] at h'; cases h'
  ·refine .inr ⟨1,t+1,25,_,zL _,rfl,Qev (X0 _) hys,?_⟩
   have e:=QjF (R:=Y1 v F (p.length - 1) p) ys
   have hn:=X0 (Y1 v F (p.length - 1) p)
   simp [YU,Qgd,Qac,e,short,h,rows,nameless,Qd]
end
end Go.Proofs.Ytingdebioipemaa
namespace Go.Proofs.Ytingdebioipemaa
open Go Go.Am Go.Cl
set_option maxRecDepth 100000
variable {P:Program} {G:Nat→Option V}
section
attribute [local go_sem] nF nT lM lR zA zL bne_self_eq_false decide_false decide_true gt_iff_lt Qb Qt Q9 zqx_0 zqx_1 zqx_2 zqx_3 Qvv Qvu Qvt Qvs zqx_8 XG zq5_0 zq5_1 zq5_2 zq5_3 Qwm Qwl Qwk Qwj zq5_8 QR zqg_0 zqg_1 zqg_2 zqg_3 Qv0 QvZ QvY QvX zqg_8
def QmN (F:List (List Int)) (k:Int):Bool:=decide ((F.length:Int)≤k)&&F.all fun c=>decide (c.length≤20)
abbrev fwJ (t:Nat) (F:List (List Int)):Nat→Fr→H→Prop:=fun m fr σ=>∃ i,i≤F.length∧m=F.length - i∧(∀ c∈F.take i,c.length≤20)∧Qg fr 0=.lst 1 (F.map row) false∧Qg fr 5=.int .i64 ((i:Nat):Int)∧σ=⟨t,[]⟩
abbrev fwE (t:Nat) (F:List (List Int)):AE→Fr→H→Prop:=fun e fr σ=>(e=.ret∧Qg fr 4=.bool false∧(F.all fun c=>decide (c.length≤20))=false)∨(e=.ex 0∧(F.all fun c=>decide (c.length≤20))=true)
variable {σ:H} {fr:Fr} {t m:Nat}
theorem Qsd (hT:Qj P tab) {F:List (List Int)} (hl:F.length≤1000000) (hc:∀ c∈F,c.length≤9223372036854775807) (hJ:fwJ t F m fr σ) :
 W P G 22 0 (.seq (zg Qwm [10,11,12] (zw 13 .skip (.exit 0))) (.seq (.block 1 (zg Qwl [16,17,18,19,20] (zw 21 (zg Qwk [] .ret) .skip))) (.reg Qwj [14,15]))) fr σ (Y9 (fun fr σ=>∃ m' fr' σ',m'<m∧Shift G 22 0 fr σ fr' σ'∧fwJ t F m' fr' σ') (fwE t F)):=by
 obtain ⟨i,hi,rfl,hall,f0,f5,rfl⟩:=hJ
 rcases Nat.lt_or_ge i F.length with hlt | hge
 ·obtain ⟨c,hci⟩:∃ c,F[i]?=some c:=⟨_,List.getElem?_eq_getElem hlt⟩
  have hD:=XD hci
  have hcm:=List.mem_of_getElem? hci
  have e2:=XP hlt (by omega)
  have hts:=Qo hci
  rcases Nat.lt_or_ge 20 c.length with h20 | h20
  ·have h20':(20:Int)<(c.length:Int):=by omega
   have hfa:(F.all fun c=>decide (c.length≤20))=false:=by
    rw [List.all_eq_false]
    exact ⟨c,hcm,by simp; omega⟩
   refine Qf [(0,.lst 1 (F.map row) false),(5,.int .i64 ((i:Nat):Int))] ⟨f0,f5,trivial⟩  1000 ?_
   simp -implicitDefEqProofs (disch:=omega) only [go_sem,↓reduceIte,reduceCtorEq,rq,hlt,hD,h20']
   exact .inl ⟨rfl,rfl,hfa⟩
  ·have h20':¬ (20:Int)<(c.length:Int):=by omega
   refine Qf [(0,.lst 1 (F.map row) false),(5,.int .i64 ((i:Nat):Int))] ⟨f0,f5,trivial⟩  1000 ?_
   simp -implicitDefEqProofs (disch:=omega) only [go_sem,↓reduceIte,reduceCtorEq,rq,hlt,hD,h20']
   refine ⟨F.length - (i+1),_,_,by omega,Shift.refl _ _ _ _,i+1,by omega,rfl,fun d hd=>?_,?_⟩
   ·rw [hts,List.mem_append] at hd
    rcases hd with hd | hd
    ·exact hall d hd
    ·simp at hd; subst hd; omega
   ·simp -implicitDefEqProofs (disch:=omega) only [go_sem,↓reduceIte,reduceCtorEq,e2]
 ·have hi:i=F.length:=by omega
  rw [hi,List.take_length] at hall
  refine Qf [(0,.lst 1 (F.map row) false),(5,.int .i64 ((i:Nat):Int))] ⟨f0,f5,trivial⟩  1000 ?_
  simp -implicitDefEqProofs (disch:=omega) only [go_sem,↓reduceIte,reduceCtorEq,rq,hi,Nat.lt_irrefl]
  exact .inr ⟨rfl,List.all_eq_true.2 fun c h=>by simpa using hall c h⟩
theorem QlK (hT:Qj P tab) (F:List (List Int)) (k:Nat) (hk:k≤1000) (hF:F.length≤9223372036854775807) (hc:∀ c∈F,c.length≤9223372036854775807) :
 Pure P G Z7 [rows F,.int .i64 k] fun u=>u=.bool (QmN F k):=by
 intro t
 simp only [rows]
 refine XU 0 (zL _) (QF hT QA (by simp [XG]) (Qx 1000 ?_))
 rcases Nat.lt_or_ge k F.length with h | h
 ·have h':(k:Int)<(F.length:Int):=by omega
  have hf:QmN F k=false:=by unfold QmN; rw [decide_eq_false (by omega)]; rfl
  simp -implicitDefEqProofs (disch:=omega) only [go_sem,↓reduceIte,reduceCtorEq,rq,h',hf]
 ·have h':¬ (k:Int)<(F.length:Int):=by omega
  have hf:QmN F k=F.all fun c=>decide (c.length≤20):=by unfold QmN; rw [decide_eq_true (by omega)]; rfl
  simp -implicitDefEqProofs (disch:=omega) only [go_sem,↓reduceIte,reduceCtorEq,rq,h',hf]
  refine QC (fwJ t F) (fwE t F) (m0:=F.length) ⟨0,by omega,rfl,by simp,?_⟩ (fun m fr σ hJ=>Qsd hT (by omega) hc hJ) (fun e fr σ hE=>?_)
  ·simp -implicitDefEqProofs (disch:=omega) only [go_sem,↓reduceIte,reduceCtorEq,rq]
   rfl
  ·rcases hE with ⟨rfl,f4,hh⟩ | ⟨rfl,hh⟩
   ·refine Qc 1000 ?_
    simp -implicitDefEqProofs (disch:=omega) only [go_sem,f4,hh]
   ·refine Qc 1000 ?_
    simp -implicitDefEqProofs (disch:=omega) only [go_sem,↓reduceIte,hh]
abbrev siJ (t:Nat) (a b:List Int):Nat→Fr→H→Prop:=fun m fr σ=>∃ i,i≤a.length∧m=a.length - i∧a.take i=b.take i∧Qg fr 0=.lst 1 (ints a) false∧Qg fr 1=.lst 1 (ints b) false∧Qg fr 5=.int .i64 ((i:Nat):Int)∧σ=⟨t,[]⟩
abbrev siE (t:Nat) (a b:List Int):AE→Fr→H→Prop:=fun e fr σ=>(e=.ret∧Qg fr 4=.bool false∧a≠b)∨(e=.ex 0∧a=b)
theorem QrD (hT:Qj P tab) {a b:List Int} (hab:a.length=b.length) (hl:a.length≤9223372036854775807) (hJ:siJ t a b m fr σ) :
 W P G 26 0 (.seq (zg Qvv [11,12,13] (zw 14 .skip (.exit 0))) (.seq (.block 1 (zg Qvu [17,18,19,20,21,22,23,24] (zw 25 (zg Qvt [] .ret) .skip))) (.reg Qvs [15,16]))) fr σ (Y9 (fun fr σ=>∃ m' fr' σ',m'<m∧Shift G 26 0 fr σ fr' σ'∧siJ t a b m' fr' σ') (siE t a b)):=by
 obtain ⟨i,hi,rfl,heq,f0,f1,f5,rfl⟩:=hJ
 rcases Nat.lt_or_ge i a.length with hlt | hge
 ·obtain ⟨x,hx⟩:∃ x,a[i]?=some x:=⟨_,List.getElem?_eq_getElem hlt⟩
  obtain ⟨y,hy⟩:∃ y,b[i]?=some y:=⟨_,List.getElem?_eq_getElem (by omega)⟩
  have hltb:i<b.length:=by omega
  have hD1:=Yx hx
  have hD2:=Yx hy
  have e2:=XP hlt hl
  by_cases hxy:x=y
  ·subst hxy
   have hb:(x==x)=true:=by simp
   refine Qf [(0,.lst 1 (ints a) false),(1,.lst 1 (ints b) false),(5,.int .i64 ((i:Nat):Int))] ⟨f0,f1,f5,trivial⟩  1000 ?_
   simp -implicitDefEqProofs (disch:=omega) only [go_sem,↓reduceIte,reduceCtorEq,rq,true_implies,and_true,hlt,hltb,hD1,hD2]
   refine ⟨a.length - (i+1),_,_,by omega,Shift.refl _ _ _ _,i+1,by omega,rfl,by rw [Qo hx,Qo hy,heq],?_⟩
   simp -implicitDefEqProofs (disch:=omega) only [go_sem,↓reduceIte,reduceCtorEq,rq,and_true,e2]
  ·have hb:(x=y)=False:=eq_false hxy
   have hne:a≠b:=fun e=>by rw [e,hy] at hx; exact hxy (Option.some.inj hx).symm
   refine Qf [(0,.lst 1 (ints a) false),(1,.lst 1 (ints b) false),(5,.int .i64 ((i:Nat):Int))] ⟨f0,f1,f5,trivial⟩  1000 ?_
   simp -implicitDefEqProofs (disch:=omega) only [go_sem,↓reduceIte,reduceCtorEq,rq,not_false_eq_true,false_implies,true_implies,and_true,hlt,hltb,hD1,hD2,hb]
   exact .inl ⟨rfl,rfl,hne⟩
 ·have hi:i=a.length:=by omega
  rw [hi,List.take_length,hab,List.take_length] at heq
  refine Qf [(0,.lst 1 (ints a) false),(1,.lst 1 (ints b) false),(5,.int .i64 ((i:Nat):Int))] ⟨f0,f1,f5,trivial⟩  1000 ?_
  simp -implicitDefEqProofs (disch:=omega) only [go_sem,↓reduceIte,reduceCtorEq,rq,hi,Nat.lt_irrefl]
  exact .inr ⟨rfl,heq⟩
theorem QnG (hT:Qj P tab) (a b:List Int) (hl:a.length≤9223372036854775807) (hl':b.length≤9223372036854775807) :
 Pure P G Zc [row a,row b] fun u=>u=.bool (decide (a=b)):=by
 intro t
 simp only [row]
 refine XU 0 (zL _) (QF hT XX (by simp [Q9]) (Qx 1000 ?_))
 by_cases h:a.length=b.length
 ·have h':((a.length:Int)=(b.length:Int))=True:=eq_true (by omega)
  simp -implicitDefEqProofs (disch:=omega) only [go_sem,↓reduceIte,reduceCtorEq,rq,not_true_eq_false,false_implies,true_implies,true_and,h']
  refine QC (siJ t a b) (siE t a b) (m0:=a.length) ⟨0,by omega,rfl,by simp,?_⟩ (fun m fr σ hJ=>QrD hT h hl hJ) (fun e fr σ hE=>?_)
  ·simp -implicitDefEqProofs (disch:=omega) only [go_sem,↓reduceIte,reduceCtorEq,rq,true_and,and_true]
   rfl
  ·rcases hE with ⟨rfl,f4,hh⟩ | ⟨rfl,hh⟩
   ·refine Qc 1000 ?_
    simp -implicitDefEqProofs (disch:=omega) only [go_sem,and_true,f4,hh]
   ·refine Qc 1000 ?_
    simp -implicitDefEqProofs (disch:=omega) only [go_sem,↓reduceIte,and_true,hh]
 ·have h':((a.length:Int)=(b.length:Int))=False:=eq_false (by omega)
  have hne:a≠b:=fun e=>h (by rw [e])
  simp -implicitDefEqProofs (disch:=omega) only [go_sem,↓reduceIte,reduceCtorEq,rq,not_false_eq_true,false_implies,true_implies,and_true,h',hne]
abbrev srJ (t:Nat) (a b:List (List Int)):Nat→Fr→H→Prop:=fun m fr σ=>∃ i,i≤a.length∧m=a.length - i∧a.take i=b.take i∧Qg fr 0=.lst 1 (a.map row) false∧Qg fr 1=.lst 1 (b.map row) false∧Qg fr 5=.int .i64 ((i:Nat):Int)∧σ=⟨t,[]⟩
abbrev srE (t:Nat) (a b:List (List Int)):AE→Fr→H→Prop:=fun e fr σ=>(e=.ret∧Qg fr 4=.bool false∧a≠b)∨(e=.ex 0∧a=b)
theorem Qrz (hT:Qj P tab) {a b:List (List Int)} (hab:a.length=b.length) (hl:a.length≤1000000) (ha:∀ c∈a,c.length≤1000000) (hb:∀ c∈b,c.length≤1000000) (hJ:srJ t a b m fr σ) :
 W P G 27 0 (.seq (zg Qv0 [11,12,13] (zw 14 .skip (.exit 0))) (.seq (.block 1 (zg QvZ [17,18,19,20,21,22,23,24,25] (zw 26 (zg QvY [] .ret) .skip))) (.reg QvX [15,16]))) fr σ (Y9 (fun fr σ=>∃ m' fr' σ',m'<m∧Shift G 27 0 fr σ fr' σ'∧srJ t a b m' fr' σ') (srE t a b)):=by
 obtain ⟨i,hi,rfl,heq,f0,f1,f5,rfl⟩:=hJ
 rcases Nat.lt_or_ge i a.length with hlt | hge
 ·obtain ⟨x,hx⟩:∃ x,a[i]?=some x:=⟨_,List.getElem?_eq_getElem hlt⟩
  obtain ⟨y,hy⟩:∃ y,b[i]?=some y:=⟨_,List.getElem?_eq_getElem (by omega)⟩
  have hltb:i<b.length:=by omega
  have hD1:=XD hx
  have hD2:=XD hy
  have e2:=XP hlt (by omega)
  have hS:=QnG (G:=G) hT x y (by have:=ha x (List.mem_of_getElem? hx); omega) (by have:=hb y (List.mem_of_getElem? hy); omega)
  simp only [row] at hS
  by_cases hxy:x=y
  ·subst hxy
   refine Qf [(0,.lst 1 (a.map row) false),(1,.lst 1 (b.map row) false),(5,.int .i64 ((i:Nat):Int))] ⟨f0,f1,f5,trivial⟩  1000 ?_
   simp -implicitDefEqProofs (disch:=omega) only [go_sem,↓reduceIte,reduceCtorEq,rq,true_implies,and_true,hlt,hltb,hD1,hD2]
   refine Qi hT XX hS (by simp [Qd,nameless]) 1000 ?_
   simp -implicitDefEqProofs (disch:=omega) only [go_sem,↓reduceIte,reduceCtorEq,rq]
   refine ⟨a.length - (i+1),_,_,by omega,Shift.refl _ _ _ _,i+1,by omega,rfl,by rw [Qo hx,Qo hy,heq],?_⟩
   simp -implicitDefEqProofs (disch:=omega) only [go_sem,↓reduceIte,reduceCtorEq,rq,and_true,e2]
  ·have hne:a≠b:=fun e=>by rw [e,hy] at hx; exact hxy (Option.some.inj hx).symm
   refine Qf [(0,.lst 1 (a.map row) false),(1,.lst 1 (b.map row) false),(5,.int .i64 ((i:Nat):Int))] ⟨f0,f1,f5,trivial⟩  1000 ?_
   simp -implicitDefEqProofs (disch:=omega) only [go_sem,↓reduceIte,reduceCtorEq,rq,true_implies,and_true,hlt,hltb,hD1,hD2]
   refine Qi hT XX hS (by simp [Qd,nameless]) 1000 ?_
   simp -implicitDefEqProofs (disch:=omega) only [go_sem,↓reduceIte,reduceCtorEq,rq,hxy]
   exact .inl ⟨rfl,rfl,hne⟩
 ·have hi:i=a.length:=by omega
  rw [hi,List.take_length,hab,List.take_length] at heq
  refine Qf [(0,.lst 1 (a.map row) false),(1,.lst 1 (b.map row) false),(5,.int .i64 ((i:Nat):Int))] ⟨f0,f1,f5,trivial⟩  1000 ?_
  simp -implicitDefEqProofs (disch:=omega) only [go_sem,↓reduceIte,reduceCtorEq,rq,hi,Nat.lt_irrefl]
  exact .inr ⟨rfl,heq⟩
theorem Qip (hT:Qj P tab) (a b:List (List Int)) (hl:a.length≤1000000) (hl':b.length≤1000000) (ha:∀ c∈a,c.length≤1000000) (hb:∀ c∈b,c.length≤1000000) :
 Pure P G XO [rows a,rows b] fun u=>u=.bool (decide (a=b)):=by
 intro t
 simp only [rows]
 refine XU 0 (zL _) (QF hT XL (by simp [QR]) (Qx 1000 ?_))
 by_cases h:a.length=b.length
 ·have h':((a.length:Int)=(b.length:Int))=True:=eq_true (by omega)
  simp -implicitDefEqProofs (disch:=omega) only [go_sem,↓reduceIte,reduceCtorEq,rq,not_true_eq_false,false_implies,true_implies,true_and,h']
  refine QC (srJ t a b) (srE t a b) (m0:=a.length) ⟨0,by omega,rfl,by simp,?_⟩ (fun m fr σ hJ=>Qrz hT h hl ha hb hJ) (fun e fr σ hE=>?_)
  ·simp -implicitDefEqProofs (disch:=omega) only [go_sem,↓reduceIte,reduceCtorEq,rq,true_and,and_true]
   rfl
  ·rcases hE with ⟨rfl,f4,hh⟩ | ⟨rfl,hh⟩
   ·refine Qc 1000 ?_
    simp -implicitDefEqProofs (disch:=omega) only [go_sem,and_true,f4,hh]
   ·refine Qc 1000 ?_
    simp -implicitDefEqProofs (disch:=omega) only [go_sem,↓reduceIte,and_true,hh]
 ·have h':((a.length:Int)=(b.length:Int))=False:=eq_false (by omega)
  have hne:a≠b:=fun e=>h (by rw [e])
  simp -implicitDefEqProofs (disch:=omega) only [go_sem,↓reduceIte,reduceCtorEq,rq,not_false_eq_true,false_implies,true_implies,and_true,h',hne]
end
end Go.Proofs.Ytingdebioipemaa
namespace Go.Proofs.Ytingdebioipemaa
open Go Go.Am Go.Cl
set_option maxRecDepth 100000
variable {G:Nat→Option V}
section
attribute [local go_sem] nF lR zA zL Xn zq6_0 zq6_1 zq6_2 zq6_3
def trow (c:List Int):V:=.lst 1 (ints c) true
def QbT (F:List (List Int)):V:=.lst 1 (F.map trow) true
theorem Qfb (c:List Int):Wk (trow c) (row c):=.lst 1 1 _ _ true (WkL.refl _) (.inr rfl)
theorem Y6 (F:List (List Int)):Wk (QbT F) (rows F):=.lst 1 1 _ _ true (WkL.map fun c _=>Qfb c) (.inr rfl)
theorem ZX (v:Int) (F:List (List Int)):Wk (.agg [.int .i64 v,QbT F]) (fml v F):=.agg _ _ (.cons _ _ _ _ (.refl _) (.cons _ _ _ _ (Y6 F) .nil))
def wF:List (List Int):=[[1,2],[-1,2],[1,-2],[-1,-2]]
theorem QfP (hT:Qj Try.prog tab):Pure Try.prog G Zu [] fun u=>u=.bool true:=by
 have hSh:Pure Try.prog G Qb1 [.agg [.int .i64 2,QbT wF],QbT [[1,2,-2],[2],[2],[]]] fun u=>u=.tup [rows [[2],[]],.bool true]:=by
  have h:=QlN (G:=G) hT 2 wF [[1,2,-2],[2],[2],[]] (by decide) (by decide) (by decide) (by decide)
  rw [show short 2 wF [[1,2,-2],[2],[2],[]]=([[2],[]],true) by decide +kernel] at h
  exact Pure.args (.cons _ _ _ _ (ZX _ _) (.cons _ _ _ _ (Y6 _) .nil)) h
 have hF1:Pure Try.prog G Qad [.agg [.int .i64 2,QbT wF],trow [2]] fun u=>u=.bool true:=by
  have h:=YP (G:=G) hT 2 wF [2] (by decide) (by decide) (by decide) (by decide)
  rw [show follows 2 wF [2]=true by decide +kernel] at h
  exact Pure.args (.cons _ _ _ _ (ZX _ _) (.cons _ _ _ _ (Qfb _) .nil)) h
 have hF2:Pure Try.prog G Qad [.agg [.int .i64 2,QbT wF],.lst 0 [] true] fun u=>u=.bool false:=by
  have h:=YP (G:=G) hT 2 wF [] (by decide) (by decide) (by decide) (by decide)
  rw [show follows 2 wF []=false by decide +kernel] at h
  exact Pure.args (.cons _ _ _ _ (ZX _ _) (.cons _ _ _ _ (.lst 0 1 [] [] true .nil (.inl rfl)) .nil)) h
 have hC1:Pure Try.prog G Qb2 [.agg [.int .i64 2,QbT wF],QbT [[2],[]]] fun u=>u=.bool true:=by
  have h:=Qax (G:=G) hT 2 wF [[2],[]] (by decide) (by decide) (by decide) (by decide)
  rw [show Xc 2 wF [[2],[]]=true by decide +kernel] at h
  exact Pure.args (.cons _ _ _ _ (ZX _ _) (.cons _ _ _ _ (Y6 _) .nil)) h
 have hC2:Pure Try.prog G Qb2 [.agg [.int .i64 2,QbT wF],QbT [[]]] fun u=>u=.bool false:=by
  have h:=Qax (G:=G) hT 2 wF [[]] (by decide) (by decide) (by decide) (by decide)
  rw [show Xc 2 wF [[]]=false by decide +kernel] at h
  exact Pure.args (.cons _ _ _ _ (ZX _ _) (.cons _ _ _ _ (Y6 _) .nil)) h
 have hS:Pure Try.prog G XO [rows [[2],[]],QbT [[2],[]]] fun u=>u=.bool true:=by
  have h:=Qip (G:=G) hT [[2],[]] [[2],[]] (by decide) (by decide) (by decide) (by decide)
  exact Pure.args (.cons _ _ _ _ (.refl _) (.cons _ _ _ _ (Y6 _) .nil)) (by simpa using h)
 simp only [QbT,trow,rows,row,ints,wF,List.map_cons,List.map_nil] at hSh hF1 hF2 hC1 hC2 hS
 intro t
 refine XU 0 (zL _) (QF hT Qh (by simp [Xn]) (Qx 1000 ?_))
 simp -implicitDefEqProofs (disch:=omega) only [go_sem,↓reduceIte,reduceCtorEq,rA,rq,rL]
 refine Qi hT Qd9 hSh (by simp [Qd,nameless]) 1000 ?_
 simp -implicitDefEqProofs (disch:=omega) only [go_sem,↓reduceIte,reduceCtorEq,rA,rq,rTq]
 refine Qi hT QG hF1 (by simp [Qd,nameless]) 1000 ?_
 simp -implicitDefEqProofs (disch:=omega) only [go_sem,↓reduceIte,reduceCtorEq,rA,rq]
 refine Qi hT QG hF2 (by simp [Qd,nameless]) 1000 ?_
 simp -implicitDefEqProofs (disch:=omega) only [go_sem,↓reduceIte,reduceCtorEq,rA,rq,rL]
 refine Qi hT Q4 hC1 (by simp [Qd,nameless]) 1000 ?_
 simp -implicitDefEqProofs (disch:=omega) only [go_sem,↓reduceIte,reduceCtorEq,rA,rq]
 refine Qi hT Q4 hC2 (by simp [Qd,nameless]) 1000 ?_
 simp -implicitDefEqProofs (disch:=omega) only [go_sem,↓reduceIte,reduceCtorEq,rA,rq,rL]
 refine Qi hT XL hS (by simp [Qd,nameless]) 1000 ?_
 simp -implicitDefEqProofs (disch:=omega) only [go_sem,↓reduceIte,reduceCtorEq,rq]
end
section
attribute [local go_sem] nF nT cA lC lM lN nA aZ lR Nat.mul_one zA zL decide_false decide_true gt_iff_lt Qb Qt Q0 zq2_0 zq2_1 Qmc Qmb Qma Ql9 Ql8 Ql7 Qom zq2_2 zq2_3 zq2_4 zq2_5 zq2_6 zq2_7 zq2_8 zq2_9
variable {c:List Int} {k t tw t8:Nat}
theorem seen_ints {o:List (Option Ob)} {w T:Nat} (h:o[k]?=some (some (.arr w T (ints c)))):Seen o (.sl k w 0 1 c.length none) (.lst 1 (ints c) false):=by
 have:=Seen.row (o:=o) k w 0 1 none T (ints c) (ints c) h (fun j u hj=>?_) (fun _=>rfl)
 ·rwa [Qb] at this
 ·have hj':=hj
  simp only [ints,List.getElem?_map,Option.map_eq_some_iff] at hj
  obtain ⟨c,hc,rfl⟩:=hj
  refine ⟨rfl,fun i d hd=>?_⟩
  cases i with
  | zero =>
    simp [V.cells] at hd; subst hd
    refine ⟨?_,by simp [nameless]⟩
    rw [show 0+j * 1+0=j by omega]; exact hj'
  | succ i=>simp [V.cells] at hd
variable {F Gs:List (List Int)}
theorem Qik (h:QmN F k=true):F.length≤k∧∀ c∈F,c.length≤20:=by
 simp only [QmN,Bool.and_eq_true,decide_eq_true_eq,List.all_eq_true] at h
 exact ⟨by omega,fun c hc=>h.2 c hc⟩
theorem Qhj:∀ c:List Int,((ints c).map V.cells).flatten=ints c
 | []=>rfl
 | n::c=>by
   have:=Qhj c
   simp only [ints,List.map_cons,List.flatten_cons] at this ⊢
   rw [this]; rfl
def mB (t tw t8:Nat) (v:Int) (F Gs:List (List Int)) (c:List Int):List (Option Ob):=[some (.arr t 24 [.int .i64 v,.lst 1 (F.map row) false]),some (.arr (t+1) 24 [.int .i64 v,.sl 2 tw 0 1 (F.length+Gs.length) none]),some (.arr tw 25 (F.map row++Gs.map row)),some (.arr t8 24 [.int .i64 v,.lst 1 [.lst 1 (ints c) false] true])]
abbrev mJ (t tw t8:Nat) (v:Int) (F Gs:List (List Int)) (c:List Int):Nat→Fr→H→Prop:=fun m fr σ=>∃ i t',i≤F.length∧m=F.length - i∧Qg fr 3=.ptr 0 t 0∧Qg fr 8=.ptr 3 t8 0∧Qg fr 2=.lst 1 (ints c) false∧Qg fr 9=.int .i64 ((i:Nat):Int)∧σ=⟨t',mB t tw t8 v F Gs c⟩
abbrev mE:AE→Fr→H→Prop:=fun e _ _=>e=.ex 0
variable {v:Int}
theorem QpH (h:right v [c]=true):∀ n∈c,n≠0∧-v≤n∧n≤v:=fun n hn=>by
 simp only [right,List.all_cons,List.all_nil,Bool.and_true,Bool.and_eq_true,List.all_eq_true,XI,decide_eq_true_eq] at h
 exact h.2 n hn
variable {fr:Fr}
set_option maxHeartbeats 1000000 in
theorem Qw2 (hT:Qj Try.prog tab) (hF:F.length≤30) (hFc:∀ c∈F,c.length≤20) (hcl:c.length≤20) (hR:right v F=true) (hFb:∀ c∈F,∀ n∈c,-9223372036854775808≤n∧n≤9223372036854775807)
 (hb:∀ n∈c,-9223372036854775808≤n∧n≤9223372036854775807) {m:Nat} {σ:H} (hJ:mJ t tw t8 v F Gs c m fr σ) :
 W Try.prog G 98 0 wg fr σ (Y9 (fun fr σ=>∃ m' fr' σ',m'<m∧Shift G 98 0 fr σ fr' σ'∧mJ t tw t8 v F Gs c m' fr' σ') mE):=by
 obtain ⟨i,t',hi,rfl,f3,f8,f2,f9,rfl⟩:=hJ
 rcases Nat.lt_or_ge i F.length with hlt | hge
 ·obtain ⟨d,hdi⟩:∃ d,F[i]?=some d:=⟨_,List.getElem?_eq_getElem hlt⟩
  have hD:=XD hdi
  have hdm:=List.mem_of_getElem? hdi
  have e2:=XP hlt (by omega)
  have hdl:=hFc d hdm
  have hdf:=Qhj d
  have hcf:=Qhj c
  have n1:d.length * 8≤140737488355328:=by omega
  have n2:d.length≤9223372036854775807:=by omega
  have n3:(d.length+c.length) * 8≤140737488355328:=by omega
  have n4:d.length+c.length≤9223372036854775807:=by omega
  have hFo:=YP (G:=G) hT v F d (by omega) (fun c h=>by have:=hFc c h; omega) (by omega) (hFb d hdm)
  rw [show follows v F d=true by simpa using Qf4 hR hdm [] (by simp)] at hFo
  have hR1:=Pure.args (.cons _ _ _ _ (.agg [.int .i64 v,.lst 1 [.lst 1 (ints c) false] true] _ (.cons _ _ _ _ (.refl _) (.cons _ _ _ _ (.lst 1 1 _ _ true (WkL.refl _) (.inr rfl)) .nil))) .nil) (Qaw (P:=Try.prog) (G:=G) hT v [c] (by simp) (by simp; omega))
  simp only [fml,rows,row] at hFo hR1
  refine Qf [(3,.ptr 0 t 0),(8,.ptr 3 t8 0),(2,.lst 1 (ints c) false),(9,.int .i64 ((i:Nat):Int))] ⟨f3,f8,f2,f9,trivial⟩  1000 ?_
  simp -implicitDefEqProofs (disch:=omega) only [go_sem,↓reduceIte,reduceCtorEq,rA,rq,mB,hlt,hD,hdf,n1,n2]
  refine Qi hT QG hFo (by simp [Qd,nameless]) 1000 ?_
  simp -implicitDefEqProofs (disch:=omega) only [go_sem,↓reduceIte,reduceCtorEq,rA,rq]
  refine Qi hT Ql hR1 (by simp [Qd,nameless]) 1000 ?_
  cases h1:right v [c] with
  | false =>
    simp -implicitDefEqProofs (disch:=omega) only [go_sem,↓reduceIte,rA,rq]
    refine ⟨F.length - (i+1),_,_,by omega,Shift.drop (o':=List.take 4 _) (Qal _ _) (lR _) (zL _),i+1,t'+1,by omega,rfl,?_⟩
    simp -implicitDefEqProofs (disch:=omega) only [go_sem,↓reduceIte,rq,e2,mB,tS,tZ]
  | true =>
    simp -implicitDefEqProofs (disch:=omega) only [go_sem,↓reduceIte,reduceCtorEq,rA,rq,hcf,n3,n4]
    have hV:∀ (o:List (Option Ob)) (k w T:Nat),o[k]?=some (some (.arr w T (ints d++ints c)))→Seen o (.sl k w 0 1 (d.length+c.length) none) (.lst 1 (ints (d++c)) false):=fun o k w T h=>by
     rw [← lA]
     exact seen_ints (w:=w) (T:=T) (by rw [h]; simp [ints])
    have hFo2:=YP (G:=G) hT v F (d++c) (by omega) (fun c h=>by have:=hFc c h; omega) (by simp; omega) (fun n h=>(List.mem_append.1 h).elim (hFb d hdm n) (hb n))
    rw [show follows v F (d++c)=true from Qf4 hR hdm c (QpH h1)] at hFo2
    simp only [fml,rows,row] at hFo2
    refine QJ hT QG hFo2 (.cons _ _ _ _ (.same _ (by simp [nameless,Qd])) (.cons _ _ _ _ (hV _ _ _ _ rfl) .nil)) rfl 1000 ?_
    simp -implicitDefEqProofs (disch:=omega) only [go_sem,↓reduceIte,rA,rq]
    refine ⟨F.length - (i+1),_,_,by omega,Shift.drop (o':=List.take 4 _) (Qal _ _) (lR _) (zL _),i+1,t'+1+1,by omega,rfl,?_⟩
    simp -implicitDefEqProofs (disch:=omega) only [go_sem,↓reduceIte,rq,e2,mB,tS,tZ]
 ·have hi:i=F.length:=by omega
  refine Qf [(3,.ptr 0 t 0),(8,.ptr 3 t8 0),(2,.lst 1 (ints c) false),(9,.int .i64 ((i:Nat):Int))] ⟨f3,f8,f2,f9,trivial⟩  1000 ?_
  simp -implicitDefEqProofs (disch:=omega) only [go_sem,↓reduceIte,rA,rq,mB,hi,Nat.lt_irrefl]
theorem Qp4 (hT:Qj Try.prog tab) {t':Nat} (hF:F.length≤30) (hFc:∀ c∈F,c.length≤20) (hcl:c.length≤20) (hR:right v F=true) (hFb:∀ c∈F,∀ n∈c,-9223372036854775808≤n∧n≤9223372036854775807)
 (hb:∀ n∈c,-9223372036854775808≤n∧n≤9223372036854775807) (f3:Qg fr 3=.ptr 0 t 0) (f8:Qg fr 8=.ptr 3 t8 0) (f2:Qg fr 2=.lst 1 (ints c) false) (f9:Qg fr 9=.int .i64 0) :
 sem Try.prog G 98 0 (endK G [RV.tmp 6] (Keep 0 fun v _=>nameless v=true∧v=V.bool true)) [.ac (.loop wg),.blk 0,.ac (zg Qom [97] .ret)] .nrm fr ⟨t',mB t tw t8 v F Gs c⟩:=by
 refine QC (mJ t tw t8 v F Gs c) mE (m0:=F.length) ⟨0,t',by omega,rfl,f3,f8,f2,f9,rfl⟩ (fun m fr σ hJ=>Qw2 hT hF hFc hcl hR hFb hb hJ) (fun e fr σ hE=>?_)
 obtain rfl:=hE
 refine Qc 1000 ?_
 simp -implicitDefEqProofs (disch:=omega) only [go_sem,↓reduceIte]
 refine Qi hT Qh (QfP (G:=G) hT) rfl 1000 ?_
 simp -implicitDefEqProofs (disch:=omega) only [go_sem,↓reduceIte,rq]
set_option maxHeartbeats 1000000 in
theorem QqN (hT:Qj Try.prog tab) (v:Int) (F Gs:List (List Int)) (c:List Int) (hF:F.length≤9223372036854775807) (hFc:∀ c∈F,c.length≤9223372036854775807) (hG:Gs.length≤9223372036854775807) (hGc:∀ c∈Gs,c.length≤9223372036854775807)
 (hcl:c.length≤9223372036854775807) (hFb:∀ c∈F,∀ n∈c,-9223372036854775808≤n∧n≤9223372036854775807) (hb:∀ n∈c,-9223372036854775808≤n∧n≤9223372036854775807) :
 Pure Try.prog G XT [fml v F,rows Gs,row c] fun u=>u=.bool true:=by
 have hW:=QfP (G:=G) hT
 have hf1:=QlK (G:=G) hT F 30 (by omega) hF hFc
 have hf2:=QlK (G:=G) hT Gs 10 (by omega) hG hGc
 have hR:=Qaw (P:=Try.prog) (G:=G) hT v F hF hFc
 simp only [fml,rows,row] at hf1 hf2 hR ⊢
 intro t
 refine XU 0 (zL _) (QF hT Y0 (by simp [Q0]) (Qx 1000 ?_))
 simp -implicitDefEqProofs (disch:=omega) only [go_sem,↓reduceIte,reduceCtorEq,rA,rq]
 refine Qi hT QA hf1 (by simp [Qd,nameless]) 1000 ?_
 cases h1:QmN F 30 with
 | false =>
   simp -implicitDefEqProofs (disch:=omega) only [go_sem,↓reduceIte,reduceCtorEq,rq]
   refine Qi hT Qh hW rfl 1000 ?_
   simp -implicitDefEqProofs (disch:=omega) only [go_sem,↓reduceIte,reduceCtorEq,rq]
 | true =>
   simp -implicitDefEqProofs (disch:=omega) only [go_sem,↓reduceIte,reduceCtorEq,rA,rq]
   refine Qi hT QA hf2 (by simp [Qd,nameless]) 1000 ?_
   cases h2:QmN Gs 10 with
   | false =>
     simp -implicitDefEqProofs (disch:=omega) only [go_sem,↓reduceIte,reduceCtorEq,rA,rq]
     refine Qi hT Qh hW rfl 1000 ?_
     simp -implicitDefEqProofs (disch:=omega) only [go_sem,↓reduceIte,reduceCtorEq,rq]
   | true =>
     rcases Nat.lt_or_ge 20 c.length with h3 | h3
     ·have h3':((20:Int)<(c.length:Int))=True:=eq_true (by omega)
      simp -implicitDefEqProofs (disch:=omega) only [go_sem,↓reduceIte,reduceCtorEq,rA,rq,h3']
      refine Qi hT Qh hW rfl 1000 ?_
      simp -implicitDefEqProofs (disch:=omega) only [go_sem,↓reduceIte,reduceCtorEq,rq]
     ·have h3':((20:Int)<(c.length:Int))=False:=eq_false (by omega)
      obtain ⟨hF30,hF20⟩:=Qik (k:=30) h1
      obtain ⟨hG10,hG20⟩:=Qik (k:=10) h2
      simp -implicitDefEqProofs (disch:=omega) only [go_sem,↓reduceIte,reduceCtorEq,rA,rq,h3']
      refine Qi hT Ql hR (by simp [Qd,nameless]) 1000 ?_
      cases h4:right v F with
      | false =>
        simp -implicitDefEqProofs (disch:=omega) only [go_sem,↓reduceIte,reduceCtorEq,rA,rq]
        refine Qi hT Qh hW rfl 1000 ?_
        simp -implicitDefEqProofs (disch:=omega) only [go_sem,↓reduceIte,reduceCtorEq,rq]
      | true =>
        have hfl:=ZO F
        have hgl:=ZO Gs
        have n1:F.length * 24≤140737488355328:=by omega
        have n2:F.length≤9223372036854775807:=hF
        have n3:(F.length+Gs.length) * 24≤140737488355328:=by omega
        have n4:F.length+Gs.length≤9223372036854775807:=by omega
        have hV:∀ (o:List (Option Ob)) (k w T:Nat),o[k]?=some (some (.arr w T (F.map row++Gs.map row)))→Seen o (.sl k w 0 1 (F.length+Gs.length) none) (.lst 1 ((F++Gs).map row) false):=fun o k w T h=>by
         rw [← lA]
         exact Qam (w:=w) (T:=T) (by rw [h,List.map_append])
        have hM:∀ d∈F++Gs,d.length≤20:=fun d h=>(List.mem_append.1 h).elim (hF20 d) (hG20 d)
        have hR2:=Qaw (P:=Try.prog) (G:=G) hT v (F++Gs) (by simp; omega) (fun d h=>by have:=hM d h; omega)
        have hFo:=YP (G:=G) hT v F c (by omega) (fun c h=>by have:=hF20 c h; omega) (by omega) hb
        have hFo2:=YP (G:=G) hT v (F++Gs) c (by simp; omega) (fun c h=>by have:=hM c h; omega) (by omega) hb
        simp only [fml,rows,row] at hR2 hFo hFo2
        simp -implicitDefEqProofs (disch:=omega) only [go_sem,↓reduceIte,reduceCtorEq,rA,rq,rL,hfl,hgl,n1,n2,n3,n4]
        refine QJ hT Ql hR2 (.cons _ _ _ _ (.agg _ _ (.cons _ _ _ _ (.same _ rfl) (.cons _ _ _ _ (hV _ _ _ _ rfl) .nil))) .nil) rfl 1000 ?_
        cases h5:right v (F++Gs) with
        | false =>
          simp -implicitDefEqProofs (disch:=omega) only [go_sem,↓reduceIte,reduceCtorEq,rA,rq,rL]
          exact Qp4 hT hF30 hF20 (by omega) h4 hFb hb rfl rfl rfl rfl
        | true =>
          simp -implicitDefEqProofs (disch:=omega) only [go_sem,↓reduceIte,reduceCtorEq,rA,rq]
          refine Qi hT QG hFo (by simp [Qd,nameless]) 1000 ?_
          cases h6:follows v F c with
          | false =>
            simp -implicitDefEqProofs (disch:=omega) only [go_sem,↓reduceIte,reduceCtorEq,rA,rq,rL]
            exact Qp4 hT hF30 hF20 (by omega) h4 hFb hb rfl rfl rfl rfl
          | true =>
            simp -implicitDefEqProofs (disch:=omega) only [go_sem,↓reduceIte,reduceCtorEq,rA,rq]
            rw [Qj5 h6 (fun d h=>List.mem_append_left _ h) h5] at hFo2
            refine QJ hT QG hFo2 (.cons _ _ _ _ (.agg _ _ (.cons _ _ _ _ (.same _ rfl) (.cons _ _ _ _ (hV _ _ _ _ rfl) .nil))) (.cons _ _ _ _ (.same _ (by simp [nameless])) .nil)) rfl 1000 ?_
            simp -implicitDefEqProofs (disch:=omega) only [go_sem,↓reduceIte,reduceCtorEq,rA,rq,rL]
            exact Qp4 hT hF30 hF20 (by omega) h4 hFb hb rfl rfl rfl rfl
end
end Go.Proofs.Ytingdebioipemaa
namespace Go.Cl
open Go Go.Am
set_option maxRecDepth 100000
variable {n:Int}
theorem QiT {P S:List Int} (h:Srt (P++S)) (hS:∀ s∈S,av n<av s) (hP:∀ p,P.getLast?=some p→av p<av n):Srt (P++n::S):=by
 simp only [Srt,List.pairwise_append,List.pairwise_cons] at h ⊢
 refine ⟨h.1,⟨hS,h.2.1⟩,fun a ha b hb=>?_⟩
 rcases List.mem_cons.1 hb with rfl | hb
 ·cases hl:P.getLast? with
  | none=>rw [List.getLast?_eq_none_iff] at hl; subst hl; cases ha
  | some p =>
    have h1:=hP p hl
    obtain ⟨Q,rfl⟩:=List.getLast?_eq_some_iff.1 hl
    rcases List.mem_append.1 ha with ha | ha
    ·have:=(List.pairwise_append.1 h.1).2.2 a ha p (by simp); omega
    ·simp at ha; subst ha; exact h1
 ·exact h.2.2 a ha b hb
theorem Qp0 {P S:List Int} {m:Int}:m∈P++n::S↔m∈P++S∨m=n:=by
 simp only [List.mem_append,List.mem_cons]
 exact ⟨fun h=>h.elim (fun h=>.inl (.inl h)) fun h=>h.elim .inr fun h=>.inl (.inr h),fun h=>h.elim (fun h=>h.elim .inl fun h=>.inr (.inr h)) fun h=>.inr (.inl h)⟩
theorem Qbp {S:List Int}:∀ {F:List (List Int)} {c:List Int},ZY S (F++[c])=(ZY S F).bind fun S=>Qa1 S c
 | [],c=>by simp [ZY]
 | d::F,c=>by
   simp only [cA,ZY,Option.bind_assoc]
   congr 1
   funext S'
   exact Qbp
def Ze (S:List Int) (c:List Int):List Int:=c.foldl (fun l n=>if -n ∉ S∧n ∉ S∧n ∉ l then l++[n] else l) []
variable {c:List Int}
theorem Qfn {S:List Int}:Ze S (c++[n])=if -n ∉ S∧n ∉ S∧n ∉ Ze S c then Ze S c++[n] else Ze S c:=by
 rw [Ze,List.foldl_append]; rfl
theorem QpI {α:Type} {p:List α→Prop} (h0:p []) (h1:∀ l a,p l→p (l++[a])) (l:List α):p l:=by
 rw [← List.reverse_reverse l]
 induction l.reverse with
 | nil=>exact h0
 | cons a l ih=>rw [List.reverse_cons]; exact h1 _ _ ih
theorem QjY {S:List Int} (c:List Int):∀ x,x∈Ze S c↔x∈c∧-x ∉ S∧x ∉ S:=by
 refine QpI (p:=fun c=>∀ x,x∈Ze S c↔x∈c∧-x ∉ S∧x ∉ S) (by simp [Ze]) (fun c n ih x=>?_) c
 rw [Qfn]
 split
 ·rename_i h
  simp only [List.mem_append,List.mem_singleton,ih]
  constructor
  ·rintro (⟨h1,h2⟩ | rfl)
   ·exact ⟨.inl h1,h2⟩
   ·exact ⟨.inr rfl,h.1,h.2.1⟩
  ·rintro ⟨h1 | rfl,h2⟩
   ·exact .inl ⟨h1,h2⟩
   ·exact .inr rfl
 ·rename_i h
  rw [ih,List.mem_append,List.mem_singleton]
  refine ⟨fun ⟨a,b⟩=>⟨.inl a,b⟩,fun ⟨a,b⟩=>⟨a.elim id fun e=>?_,b⟩⟩
  subst e
  by_cases hx:x∈Ze S c
  ·exact ((ih x).1 hx).1
  ·exact absurd ⟨b.1,b.2,hx⟩ h
theorem Qhe {S:List Int} (c:List Int):(Ze S c).Nodup:=by
 refine QpI (p:=fun c=>(Ze S c).Nodup) (by simp [Ze]) (fun c n ih=>?_) c
 rw [Qfn]
 split
 ·rename_i h
  refine List.nodup_append.2 ⟨ih,by simp,fun a ha b hb e=>?_⟩
  simp at hb; subst hb; subst e; exact h.2.2 ha
 ·exact ih
theorem QjZ {S:List Int} (c:List Int):(Ze S c).length≤c.length:=Qeu (Qhe c) fun x hx=>((QjY c x).1 hx).1
theorem Qnf {S:List Int}:Qa1 S c=if c.any (fun n=>decide (n∈S)) then some S else if (Ze S c).length=0 then none else if (Ze S c).length=1 then some (S++[(Ze S c).getD 0 0]) else some S:=by
 cases hany:c.any fun n=>decide (n∈S) with
 | true=>rw [Qa1,if_pos hany,if_pos rfl]
 | false =>
   have hS:∀ n∈c,n ∉ S:=fun n hn h=>by
    have:=List.any_eq_false.1 hany n hn
    simp [h] at this
   have hst:Qa1 S c=match c.filter (fun n=>!decide (-n∈S)) with
    | []=>none
    | a::l=>if l.all fun n=>decide (n=a) then some (S++[a]) else some S:=if_neg (by simp [hany])
   have hmf:∀ x,x∈c.filter (fun n=>!decide (-n∈S))↔x∈Ze S c:=fun x=>by
    rw [QjY,List.mem_filter]
    simp only [Bool.not_eq_true',decide_eq_false_iff_not]
    exact ⟨fun ⟨a,b⟩=>⟨a,b,hS x a⟩,fun ⟨a,b,_⟩=>⟨a,b⟩⟩
   rw [hst,if_neg (by simp)]
   have hnd:=Qhe (S:=S) c
   cases hf:c.filter (fun n=>!decide (-n∈S)) with
   | nil =>
     have:Ze S c=[]:=List.eq_nil_iff_forall_not_mem.2 fun x hx=>by rw [← hmf,hf] at hx; cases hx
     rw [this]; rfl
   | cons a l =>
     rw [hf] at hmf
     have ha:a∈Ze S c:=(hmf a).1 (by simp)
     have h0:(Ze S c).length≠0:=fun e=>by rw [List.length_eq_zero_iff.1 e] at ha; cases ha
     rw [if_neg h0]
     cases hall:l.all fun n=>decide (n=a) with
     | true =>
       have h1:Ze S c=[a]:=by
        have hx:∀ x∈Ze S c,x=a:=fun x hx=>by
         rcases List.mem_cons.1 ((hmf x).2 hx) with e | e
         ·exact e
         ·simpa using List.all_eq_true.1 hall x e
        cases hL:Ze S c with
        | nil=>rw [hL] at ha; cases ha
        | cons b m =>
          rw [hL] at hx hnd
          have hb:=hx b (by simp)
          subst hb
          cases m with
          | nil=>rfl
          | cons d m =>
            have:=hx d (by simp)
            subst this
            simp at hnd
       rw [h1]
       show (if (l.all fun n=>decide (n=a))=true then some (S++[a]) else some S)=_
       rw [if_pos hall]; rfl
     | false =>
       obtain ⟨b,hb,hne⟩:=List.all_eq_false.1 hall
       have hne:b≠a:=by simpa using hne
       have hbm:b∈Ze S c:=(hmf b).1 (by simp [hb])
       have h1:(Ze S c).length≠1:=fun e=>by
        obtain ⟨x,hx⟩:=List.length_eq_one_iff.1 e
        rw [hx] at ha hbm
        simp at ha hbm
        exact hne (hbm.trans ha.symm)
       rw [if_neg h1]
       show (if (l.all fun n=>decide (n=a))=true then some (S++[a]) else some S)=_
       rw [if_neg (by simp [hall])]
end Go.Cl
namespace Go.Proofs.Ytingdebioipemaa
open Go Go.Am Go.Cl
set_option maxRecDepth 100000
variable {P:Program} {G:Nat→Option V}
section
attribute [local go_sem] lR zA zL and_true bne_self_eq_false decide_false decide_true false_implies ge_iff_le Qt not_false_eq_true XF Quh Qug Quf Que Qud Quc Qub XE Quw Quv true_and true_implies
variable {i:Nat}
theorem Qdo {l:List Int} {a:Int} (h:l[i]?=some a) (hl:l.length≤9223372036854775807):i<l.length∧(ints l).getD i V.any=.int .i64 a∧IntKind.i64.wrap ((i:Int)+1)=((i+1:Nat):Int) :=
 have hlt:=(List.getElem?_eq_some_iff.1 h).1
 ⟨hlt,Yx h,XP hlt hl⟩
theorem Qeg {F:List (List Int)} {c:List Int} (h:F[i]?=some c) (hl:F.length≤9223372036854775807):i<F.length∧(F.map row).getD i V.any=.lst 1 (ints c) false∧IntKind.i64.wrap ((i:Int)+1)=((i+1:Nat):Int) :=
 have hlt:=(List.getElem?_eq_some_iff.1 h).1
 ⟨hlt,XD h,XP hlt hl⟩
theorem QqK (hT:Qj P tab) (l:List Int) (n:Int) (hl:l.length≤9223372036854775807):Pure P G Z6 [row l,.int .i64 n] fun u=>u=.bool (decide (n∈l)):=by
 intro t
 simp only [row]
 refine XU 0 (zL _) (QF hT Qk (by simp [XF]) (Qx 1000 ?_))
 simp -implicitDefEqProofs (disch:=omega) only [go_sem,↓reduceIte,reduceCtorEq,rq]
 refine XZ l (fun i fr σ=>(∀ x∈l.take i,x≠n)∧Qg fr 0=.lst 1 (ints l) false∧Qg fr 1=.int .i64 n∧Qg fr 5=.int .i64 ((i:Nat):Int)∧σ=⟨t,[]⟩) (fun e fr σ=>(e=.ret∧Qg fr 4=.bool true∧n∈l)∨(e=.ex 0∧n ∉ l)) ⟨by simp,?_⟩ (fun i a ha fr σ hJ=>?_) (fun i hi fr σ hJ=>?_) (fun e fr σ hE=>?_)
 ·simp -implicitDefEqProofs (disch:=omega) only [go_sem,↓reduceIte,reduceCtorEq,rq]
  simp
 ·obtain ⟨hno,f0,f1,f5,rfl⟩:=hJ
  obtain ⟨hlt,hD,e2⟩:=Qdo ha hl
  by_cases han:a=n
  ·have hm:n∈l:=han▸List.mem_of_getElem? ha
   have hb:(a==n)=true:=by simp [han]
   refine Qf [(0,.lst 1 (ints l) false),(1,.int .i64 n),(5,.int .i64 ((i:Nat):Int))] ⟨f0,f1,f5,trivial⟩  1000 ?_
   simp -implicitDefEqProofs (disch:=omega) only [go_sem,↓reduceIte,reduceCtorEq,rq,Qb,hlt,hD,hb]
   exact hm
  ·have hb:(a=n)=False:=eq_false han
   have hts:=Qo ha
   refine Qf [(0,.lst 1 (ints l) false),(1,.int .i64 n),(5,.int .i64 ((i:Nat):Int))] ⟨f0,f1,f5,trivial⟩  1000 ?_
   simp -implicitDefEqProofs (disch:=omega) only [go_sem,↓reduceIte,reduceCtorEq,rq,Qb,hlt,hD,hb]
   refine ⟨_,_,Shift.refl _ _ _ _,fun x hx=>?_,?_⟩
   ·rw [hts,List.mem_append] at hx
    rcases hx with hx | hx
    ·exact hno x hx
    ·simp at hx; subst hx; exact han
   ·simp -implicitDefEqProofs (disch:=omega) only [go_sem,↓reduceIte,reduceCtorEq,rq,e2]
 ·obtain ⟨hno,f0,f1,f5,rfl⟩:=hJ
  rw [hi,List.take_length] at hno
  refine Qf [(0,.lst 1 (ints l) false),(1,.int .i64 n),(5,.int .i64 ((i:Nat):Int))] ⟨f0,f1,f5,trivial⟩  1000 ?_
  simp -implicitDefEqProofs (disch:=omega) only [go_sem,↓reduceIte,reduceCtorEq,rq,Qb,hi,Nat.lt_irrefl]
  exact fun hm=>hno n hm rfl
 ·rcases hE with ⟨rfl,f4,hm⟩ | ⟨rfl,hm⟩
  ·refine Qc 1000 ?_
   simp -implicitDefEqProofs (disch:=omega) only [go_sem,f4,hm]
  ·refine Qc 1000 ?_
   simp -implicitDefEqProofs (disch:=omega) only [go_sem,↓reduceIte,hm]
theorem c_lit (hT:Qj P tab) (v n:Int) (hv:0≤v∧v≤16777216):Pure P G Z5 [.int .i64 n,.int .i64 v] fun u=>u=.bool (XI v n):=by
 intro t
 have hneg:=wneg hv
 refine XU 0 (zL _) (QF hT Z3 (by simp [XE]) (Qx 12 ?_))
 by_cases h1:n=0
 ·have hr:XI v n=false:=by simp [XI,h1]
  simp -implicitDefEqProofs (disch:=omega) only [go_sem,↓reduceIte,reduceCtorEq,rq,h1]
  iterate 9 (try (refine Qc 2 ?_; simp -implicitDefEqProofs (disch:=omega) only [go_sem,↓reduceIte,reduceCtorEq,rq]))
  rw [← hr,h1]
 ·have h1':(n=0)=False:=eq_false h1
  by_cases h2:-v≤n
  ·have h2':decide (-v≤n)=true:=by simpa using h2
   by_cases h3:n≤v
   ·have hr:XI v n=true:=by simp [XI,h1,h2,h3]
    simp -implicitDefEqProofs (disch:=omega) only [go_sem,↓reduceIte,reduceCtorEq,rA,rq,h1',hneg]
    iterate 9 (try (refine Qc 2 ?_; simp -implicitDefEqProofs (disch:=omega) only [go_sem,↓reduceIte,reduceCtorEq,rA,rq,h2,h3]))
    rw [hr]
   ·have hr:XI v n=false:=by simp [XI,h3]
    simp -implicitDefEqProofs (disch:=omega) only [go_sem,↓reduceIte,reduceCtorEq,rA,rq,h1',hneg]
    iterate 9 (try (refine Qc 2 ?_; simp -implicitDefEqProofs (disch:=omega) only [go_sem,↓reduceIte,reduceCtorEq,rA,rq,h2,h3]))
    rw [hr]
  ·have hr:XI v n=false:=by simp [XI,h2]
   simp -implicitDefEqProofs (disch:=omega) only [go_sem,↓reduceIte,reduceCtorEq,rA,rq,h1',hneg]
   iterate 9 (try (refine Qc 2 ?_; simp -implicitDefEqProofs (disch:=omega) only [go_sem,↓reduceIte,reduceCtorEq,rA,rq,h2]))
   rw [hr]
end
section
attribute [local go_sem] nF nT lM aZ lR zA zL and_true decide_false decide_true gt_iff_lt Qb Qt Xk zqv_0 zqv_1 QsN QsM zqv_2 zqv_3 zqv_4 zqv_5 zqv_6 zqv_7 zqv_8 zqv_9 true_and true_implies
def rfH (t:Nat) (v:Int) (F:List (List Int)):List (Option Ob):=[some (.arr t 28 [.int .i64 v,.lst 1 (F.map row) false])]
theorem Qjj (hT:Qj P tab) (v:Int) (F:List (List Int)) (hF:F.length≤9223372036854775807) (hc:∀ c∈F,c.length≤9223372036854775807):Pure P G Zr [fml v F] fun u=>u=.bool (right v F):=by
 intro t
 simp only [fml,rows]
 refine XU 0 (zL _) (QF hT Xy (by simp [Xk]) (Qx 12 ?_))
 by_cases h1:v<0
 ·have hr:right v F=false:=by simp [right]; omega
  simp -implicitDefEqProofs (disch:=omega) only [go_sem,↓reduceIte,reduceCtorEq,rA,rq,rL,h1]
  iterate 9 (try (refine Qc 2 ?_; simp -implicitDefEqProofs (disch:=omega) only [go_sem,↓reduceIte,reduceCtorEq,rq]))
  try refine Qc 9 ?_
  try simp -implicitDefEqProofs (disch:=omega) only [go_sem,↓reduceIte,reduceCtorEq,rq]
  rw [hr]
 by_cases h2:v > 16777216
 ·have hr:right v F=false:=by simp [right]; omega
  simp -implicitDefEqProofs (disch:=omega) only [go_sem,↓reduceIte,reduceCtorEq,rA,rq,rL,h1]
  iterate 9 (try (refine Qc 2 ?_; simp -implicitDefEqProofs (disch:=omega) only [go_sem,↓reduceIte,reduceCtorEq,rA,rq,rL,h2]))
  try refine Qc 9 ?_
  try simp -implicitDefEqProofs (disch:=omega) only [go_sem,↓reduceIte,reduceCtorEq,rq]
  rw [hr]
 by_cases h3:(F.length:Int) > 1048576
 ·have hr:right v F=false:=by simp [right]; omega
  simp -implicitDefEqProofs (disch:=omega) only [go_sem,↓reduceIte,reduceCtorEq,rA,rq,rL,h1]
  iterate 9 (try (refine Qc 2 ?_; simp -implicitDefEqProofs (disch:=omega) only [go_sem,↓reduceIte,reduceCtorEq,rA,rq,rL,h2,h3]))
  try refine Qc 9 ?_
  try simp -implicitDefEqProofs (disch:=omega) only [go_sem,↓reduceIte,reduceCtorEq,rq]
  rw [hr]
 simp -implicitDefEqProofs (disch:=omega) only [go_sem,↓reduceIte,reduceCtorEq,rA,rq,rL,h1]
 iterate 9 (try (refine Qc 2 ?_; simp -implicitDefEqProofs (disch:=omega) only [go_sem,↓reduceIte,reduceCtorEq,rA,rq,rL,h2,h3]))
 refine Qc 40 ?_
 simp -implicitDefEqProofs (disch:=omega) only [go_sem]
 have hv:0≤v∧v≤16777216:=by omega
 refine XZ F (fun i fr σ=>(∀ c∈F.take i,c.all (XI v)=true)∧Qg fr 1=.ptr 0 t 0∧Qg fr 3=.int .i64 ((i:Nat):Int)∧σ=⟨t+1,rfH t v F⟩)
  (fun e fr σ=>(e=.ret∧Qg fr 2=.bool false∧right v F=false)∨(e=.ex 0∧right v F=true)) ⟨by simp,?_⟩ (fun i c hci fr σ hJ=>?_) (fun i hi fr σ hJ=>?_) (fun e fr σ hE=>?_)
 ·simp -implicitDefEqProofs (disch:=omega) only [go_sem,↓reduceIte,reduceCtorEq,rq,rfH]
  simp
 ·obtain ⟨hok,f1,f3,rfl⟩:=hJ
  obtain ⟨hlt,hD,e2⟩:=Qeg hci hF
  have hcm:=List.mem_of_getElem? hci
  have hts:=Qo hci
  refine Qf [(1,.ptr 0 t 0),(3,.int .i64 ((i:Nat):Int))] ⟨f1,f3,trivial⟩  1000 ?_
  simp -implicitDefEqProofs (disch:=omega) only [go_sem,↓reduceIte,rA,rq,rfH,hlt]
  refine XZ c (fun k fr σ=>(∀ n∈c.take k,XI v n=true)∧Qg fr 1=.ptr 0 t 0∧Qg fr 3=.int .i64 ((i:Nat):Int)∧Qg fr 4=.int .i64 ((k:Nat):Int)∧σ=⟨t+1,rfH t v F⟩)
   (fun e fr σ=>(e=.ret∧Qg fr 2=.bool false∧right v F=false)∨(e=.ex 2∧c.all (XI v)=true∧Qg fr 1=.ptr 0 t 0∧Qg fr 3=.int .i64 ((i:Nat):Int)∧σ=⟨t+1,rfH t v F⟩)) ⟨by simp,?_⟩ (fun k n hnk fr σ hJ=>?_) (fun k hk fr σ hJ=>?_) (fun e fr σ hE=>?_)
  ·simp -implicitDefEqProofs (disch:=omega) only [go_sem,↓reduceIte,rq,rfH]
   simp
  ·obtain ⟨hok2,f1,f3,f4,rfl⟩:=hJ
   obtain ⟨hlt2,hD2,e3⟩:=Qdo hnk (hc c hcm)
   have hnm:=List.mem_of_getElem? hnk
   have hts2:=Qo hnk
   have hL:=c_lit (P:=P) (G:=G) hT v n hv
   refine Qf [(1,.ptr 0 t 0),(3,.int .i64 ((i:Nat):Int)),(4,.int .i64 ((k:Nat):Int))] ⟨f1,f3,f4,trivial⟩  1000 ?_
   simp -implicitDefEqProofs (disch:=omega) only [go_sem,↓reduceIte,rA,rq,rL,rfH,hlt,hD,hlt2,hD2]
   refine Qi hT Z3 hL rfl 1000 ?_
   cases hl:XI v n with
   | false =>
     have hr:right v F=false:=by
      have:F.all (fun c=>c.all (XI v))=false:=by
       rw [List.all_eq_false]
       exact ⟨c,hcm,by rw [Bool.not_eq_true,List.all_eq_false]; exact ⟨n,hnm,by simp [hl]⟩⟩
      simp [right,this]
     simp -implicitDefEqProofs (disch:=omega) only [go_sem,↓reduceIte,reduceCtorEq,rq]
     exact hr
   | true =>
     simp -implicitDefEqProofs (disch:=omega) only [go_sem,↓reduceIte,rq]
     refine ⟨_,_,Shift.refl _ _ _ _,fun x hx=>?_,?_⟩
     ·rw [hts2,List.mem_append] at hx
      rcases hx with hx | hx
      ·exact hok2 x hx
      ·simp at hx; subst hx; exact hl
     ·simp -implicitDefEqProofs (disch:=omega) only [go_sem,↓reduceIte,rq,e3]
  ·obtain ⟨hok2,f1,f3,f4,rfl⟩:=hJ
   rw [hk,List.take_length] at hok2
   refine Qf [(1,.ptr 0 t 0),(3,.int .i64 ((i:Nat):Int)),(4,.int .i64 ((k:Nat):Int))] ⟨f1,f3,f4,trivial⟩  1000 ?_
   simp -implicitDefEqProofs (disch:=omega) only [go_sem,↓reduceIte,reduceCtorEq,rA,rq,rfH,hlt,hD,hk,Nat.lt_irrefl]
   exact List.all_eq_true.2 hok2
  ·rcases hE with ⟨rfl,f2,hr⟩ | ⟨rfl,hcc,f1,f3,rfl⟩
   ·refine Qc 1000 ?_
    simp -implicitDefEqProofs (disch:=omega) only [go_sem,f2,hr]
   ·refine Qc 1000 ?_
    simp -implicitDefEqProofs (disch:=omega) only [go_sem,↓reduceIte,rfH,f3]
    refine ⟨_,_,Shift.refl _ _ _ _,fun d hd=>?_,?_⟩
    ·rw [hts,List.mem_append] at hd
     rcases hd with hd | hd
     ·exact hok d hd
     ·simp at hd; subst hd; exact hcc
    ·simp -implicitDefEqProofs (disch:=omega) only [go_sem,↓reduceIte,rq,f1,e2]
 ·obtain ⟨hok,f1,f3,rfl⟩:=hJ
  rw [hi,List.take_length] at hok
  have hr:right v F=true:=by
   have:F.all (fun c=>c.all (XI v))=true:=List.all_eq_true.2 hok
   simp [right,this]
   omega
  refine Qf [(1,.ptr 0 t 0),(3,.int .i64 ((i:Nat):Int))] ⟨f1,f3,trivial⟩  1000 ?_
  simp -implicitDefEqProofs (disch:=omega) only [go_sem,↓reduceIte,reduceCtorEq,rA,rq,rfH,hi,Nat.lt_irrefl]
  exact hr
 ·rcases hE with ⟨rfl,f2,hr⟩ | ⟨rfl,hr⟩
  ·refine Qc 1000 ?_
   simp -implicitDefEqProofs (disch:=omega) only [go_sem,f2,hr]
  ·refine Qc 1000 ?_
   simp -implicitDefEqProofs (disch:=omega) only [go_sem,↓reduceIte,hr]
end
end Go.Proofs.Ytingdebioipemaa
