/- For every input the law ClauseText returns true, and each argument reads afterwards as it read before; the listed package variables start as the program's text lays them. -/
import Derived.Test.YtingdebioipemaaGreatDoorLawText
namespace Go.Proofs.YtingdebioipemaaGreatDoor.clauseText
open Go Go.Am Go.ChangeShapes Go.WideShapes Go.ChangeAt Go.RowKit
set_option maxRecDepth 100000
theorem Qgj:∀ t∈Tryz.f3.params.toList,Qki Tryz.prog 10 t=true∧Tryz.prog.readableRec t=true∧t<Tryz.prog.types.size:=by
 have h:(Tryz.f3.params.toList.all fun t=>Qki Tryz.prog 10 t&&Tryz.prog.readableRec t&&decide (t<Tryz.prog.types.size))=true:=by kernel_rfl
 intro t ht
 have:=List.all_eq_true.1 h t ht
 simp only [Bool.and_eq_true,decide_eq_true_eq] at this
 exact ⟨this.1.1,this.1.2,this.2⟩
theorem QoU (H:Type) (enc:TypeId × Value→H) (W:World) (base:Nat) (args:Array Value) (ds gs:List (DataW H)) (before:List MemPlace)
 (hval:∀ (j:Nat) t v,Tryz.f3.params[j]?=some t→args[j]?=some v→Value.okWide Tryz.prog W .any base t v)
 (hW:DataW.Whole enc Tryz.prog Tryz.f3.params.toList Rows.clauseTextSpec.vars false W args.toList ds gs before) (hL:laidMetH Tryz.prog Rows.clauseTextRow.laid W) :
 Calls Tryz.prog 3 args W fun e W'=>∃ v,e=.returned v∧Rows.clauseTextSpec.post enc Tryz.prog Tryz.f3 false true false false W args v W' :=
 law (fn:=Tryz.f3) (n:=10) (tb:=tBool) (G:=G0) Qtx Qgj (by kernel_rfl) (by kernel_rfl) rfl
  (fun ds h=>by
   have hn:Tryz.f3.params.toList.length=2:=by kernel_rfl
   rw [hn] at h
   match ds,h with
   | [_,_],_=>rfl) hC_clauseText (hG0 hL) hval hW
theorem reads (os:Os) {H:Type} (enc:TypeId × Value→H):∃ places,DataW.whole enc Tryz.prog ((QeG os).forCall (fun _ _=>0) ⟨#[],#[.agg #[.int .i64 0,.slice none 0 0],.slice none 0 0],[]⟩).memory Tryz.f3.params.toList Rows.clauseTextSpec.vars false (#[.agg #[.int .i64 0,.slice none 0 0],.slice none 0 0]:Array Value).toList 12=some ([.agg [.lit (.int .i64 0),.nil],.nil],[],places) :=
 ⟨[],by kernel_rfl⟩
theorem Qos (os:Os):laidMet Tryz.prog Rows.clauseTextRow.laid ((QeG os).forCall (fun _ _=>0) ⟨#[],#[.agg #[.int .i64 0,.slice none 0 0],.slice none 0 0],[]⟩).memory :=
 laidMet_laidAll _ (by kernel_rfl) (by kernel_rfl)
theorem lifted (os:Os) (started:os.Started) (H:Type) (enc:TypeId × Value→H) (F:Stop.Interp) :
 ReturnsInHanded {} Tryz.checked os 3 .any ((OpenSpec.ofChange Rows.clauseTextSpec).preRow enc Tryz.prog Tryz.f3 Rows.clauseTextRow.domain false Rows.clauseTextRow.laid) (((OpenSpec.ofChange Rows.clauseTextSpec).at F).post enc Tryz.prog Tryz.f3 false true false false):=by
 obtain ⟨places,hx⟩:=reads os enc
 refine returnsInHanded_of_row (C:=Tryz.checked) (s:=OpenSpec.ofChange Rows.clauseTextSpec) own started (by kernel_rfl) Tryz.func3
  (Qh2 (enc:=enc) (C:=Tryz.checked) false (QeG os) #[.agg #[.int .i64 0,.slice none 0 0],.slice none 0 0] (World.laidAll_os _ _ _) (World.shaped_of_ZipB (by kernel_rfl) (by kernel_rfl)) (by kernel_rfl)
   (OpenSpec.preRow_of_cond 12 hx (by kernel_rfl) (fun k hk=>by cases hk) (by kernel_rfl) (Qos os))) ?_
 intro W base args ds gs before hval hW _ _ _ hL _ _
 exact QoU H enc W base args ds gs before hval hW hL
theorem said:Rows.ClauseTextSaid :=
 OpenClaim.holds_of_cond 3 Tryz.f3 rfl rfl rfl rfl rfl rfl rfl ⟨rfl,rfl,rfl,rfl,rfl⟩ rfl rfl rfl rfl rfl (by kernel_rfl) Tryz.func3 (by kernel_rfl)
  (of_decide_eq_true (by kernel_rfl)) (by unfold Func.isWrapper; first | (rw [if_pos (by decide +kernel)]; kernel_rfl) | (rw [if_neg (by decide +kernel)]; exact ⟨rfl,rfl⟩))
  (fun os started H enc _ F=>by rw [OpenClaim.pre_eq_preRow]; exact lifted os started H enc F)
theorem plain (f : FuncId) (fn : Func) (hf : Tryz.pinned.checked.prog.funcNamed "proofmark/proofmarklaw05.ClauseText" = some f) (hfn : Tryz.pinned.checked.prog.funcs[f]? = some fn) :
 true=Tryz.pinned.checked.prog.looks []∧∀ (j:Nat) t,fn.params[j]?=some t→Tryz.pinned.checked.prog.wantsStandIn t=false:=by
 obtain rfl : f = 3 := Option.some.inj ((show Tryz.prog.funcNamed "proofmark/proofmarklaw05.ClauseText" = some 3 by kernel_rfl).symm.trans hf) |>.symm
 obtain rfl:fn=Tryz.f3:=(Option.some.inj (Tryz.func3.symm.trans hfn)).symm
 refine ⟨by kernel_rfl,fun j t ht=>?_⟩
 have h:(Tryz.f3.params.toList.all fun t=>!Tryz.prog.wantsStandIn t)=true:=by kernel_rfl
 have hm:t∈Tryz.f3.params.toList:=by
  have:=Array.mem_of_getElem? ht
  exact Array.mem_toList_iff.2 this
 have:=List.all_eq_true.1 h t hm
 exact Bool.not_eq_true' _▸this
theorem card:Rows.ClauseTextCardSaid :=
 Claim7.holds_tied_plain_at .later [] _ _ _ _ said (fun _ h=>by cases h) (by kernel_rfl) (fun _ h=>by cases h) clauseText_row_tie rfl ⟨rfl,rfl⟩ (by kernel_rfl) rfl plain (by kernel_rfl)
end Go.Proofs.YtingdebioipemaaGreatDoor.clauseText
namespace Go.Proofs.YtingdebioipemaaGreatDoor
theorem clauseText_holds:Rows.ClauseTextCardSaid:=clauseText.card
end Go.Proofs.YtingdebioipemaaGreatDoor
