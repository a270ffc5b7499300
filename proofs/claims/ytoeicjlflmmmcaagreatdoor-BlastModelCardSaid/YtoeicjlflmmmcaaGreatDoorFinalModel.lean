/- For every input the law BlastModel returns true, and each argument reads afterwards as it read before; the listed package variables start as the program's text lays them. -/
import Derived.Test.YtoeicjlflmmmcaaGreatDoorSeat
import Derived.Test.YtoeicjlflmmmcaaGreatDoorLawModel
namespace Go.Proofs.YtoeicjlflmmmcaaGreatDoor.blastModel
open Go Go.Am Go.ChangeShapes Go.WideShapes Go.ChangeAt Go.RowKit
set_option maxRecDepth 100000
theorem Qku:∀ t∈Tryz.f3.params.toList,QqE Tryz.prog 10 t=true∧Tryz.prog.readableRec t=true∧t<Tryz.prog.types.size:=by
 have h:(Tryz.f3.params.toList.all fun t=>QqE Tryz.prog 10 t&&Tryz.prog.readableRec t&&decide (t<Tryz.prog.types.size))=true:=by kernel_rfl
 intro t ht
 have:=List.all_eq_true.1 h t ht
 simp only [Bool.and_eq_true,decide_eq_true_eq] at this
 exact ⟨this.1.1,this.1.2,this.2⟩
theorem Qvh (H:Type) (enc:TypeId × Value→H) (W:World) (base:Nat) (args:Array Value) (ds gs:List (DataW H)) (before:List MemPlace)
 (hval:∀ (j:Nat) t v,Tryz.f3.params[j]?=some t→args[j]?=some v→Value.okWide Tryz.prog W .any base t v)
 (hW:DataW.Whole enc Tryz.prog Tryz.f3.params.toList Rows.blastModelSpec.vars false W args.toList ds gs before) (hL:laidMetH Tryz.prog Rows.blastModelRow.laid W) :
 Calls Tryz.prog 3 args W fun e W'=>∃ v,e=.returned v∧Rows.blastModelSpec.post enc Tryz.prog Tryz.f3 false true false false W args v W' :=
 law (fn:=Tryz.f3) (n:=10) (tb:=tBool) (G:=G0) QDv Qku (by kernel_rfl) (by kernel_rfl) rfl
  (fun ds h=>by
   have hn:Tryz.f3.params.toList.length=4:=by kernel_rfl
   rw [hn] at h
   match ds,h with
   | [_,_,_,_],_=>rfl) hC_blastModel (hG0 hL) hval hW
theorem reads (os:Os) {H:Type} (enc:TypeId × Value→H):∃ places,DataW.whole enc Tryz.prog ((QiD os).forCall (fun _ _=>0) ⟨#[],#[.slice none 0 0,.agg #[.slice none 0 0,.slice none 0 0],.int .i64 0,.int .i64 0],[]⟩).memory Tryz.f3.params.toList Rows.blastModelSpec.vars false (#[.slice none 0 0,.agg #[.slice none 0 0,.slice none 0 0],.int .i64 0,.int .i64 0]:Array Value).toList 12=some ([.nil,.agg [.nil,.nil],.lit (.int .i64 0),.lit (.int .i64 0)],[],places) :=
 ⟨[],by kernel_rfl⟩
theorem QuG (os:Os):laidMet Tryz.prog Rows.blastModelRow.laid ((QiD os).forCall (fun _ _=>0) ⟨#[],#[.slice none 0 0,.agg #[.slice none 0 0,.slice none 0 0],.int .i64 0,.int .i64 0],[]⟩).memory :=
 laidMet_laidAll _ (by kernel_rfl) (by kernel_rfl)
theorem lifted (os:Os) (started:os.Started) (H:Type) (enc:TypeId × Value→H) (F:Stop.Interp) :
 ReturnsInHanded {} Tryz.checked os 3 .any ((OpenSpec.ofChange Rows.blastModelSpec).preRow enc Tryz.prog Tryz.f3 Rows.blastModelRow.domain false Rows.blastModelRow.laid) (((OpenSpec.ofChange Rows.blastModelSpec).at F).post enc Tryz.prog Tryz.f3 false true false false):=by
 obtain ⟨places,hx⟩:=reads os enc
 refine returnsInHanded_of_row (C:=Tryz.checked) (s:=OpenSpec.ofChange Rows.blastModelSpec) own started (by kernel_rfl) Tryz.func3
  (QmZ (enc:=enc) (C:=Tryz.checked) false (QiD os) #[.slice none 0 0,.agg #[.slice none 0 0,.slice none 0 0],.int .i64 0,.int .i64 0] (World.laidAll_os _ _ _) (World.shaped_of_ZipB (by kernel_rfl) (by kernel_rfl)) (by kernel_rfl)
   (OpenSpec.preRow_of_cond 12 hx (by kernel_rfl) (fun k hk=>by cases hk) (by kernel_rfl) (QuG os))) ?_
 intro W base args ds gs before hval hW _ _ _ hL _ _
 exact Qvh H enc W base args ds gs before hval hW hL
theorem said:Rows.BlastModelSaid :=
 OpenClaim.holds_of_cond 3 Tryz.f3 rfl rfl rfl rfl rfl rfl rfl ⟨rfl,rfl,rfl,rfl,rfl⟩ rfl rfl rfl rfl rfl (by kernel_rfl) Tryz.func3 (by kernel_rfl)
  (of_decide_eq_true (by kernel_rfl)) (by unfold Func.isWrapper; first | (rw [if_pos (by decide +kernel)]; kernel_rfl) | (rw [if_neg (by decide +kernel)]; exact ⟨rfl,rfl⟩))
  (fun os started H enc _ F=>by rw [OpenClaim.pre_eq_preRow]; exact lifted os started H enc F)
theorem plain (f : FuncId) (fn : Func) (hf : Tryz.pinned.checked.prog.funcNamed "proofmark/proofmarklaw06.BlastModel" = some f) (hfn : Tryz.pinned.checked.prog.funcs[f]? = some fn) :
 false=Tryz.pinned.checked.prog.looks []∧∀ (j:Nat) t,fn.params[j]?=some t→Tryz.pinned.checked.prog.wantsStandIn t=false:=by
 obtain rfl : f = 3 := Option.some.inj ((show Tryz.prog.funcNamed "proofmark/proofmarklaw06.BlastModel" = some 3 by kernel_rfl).symm.trans hf) |>.symm
 obtain rfl:fn=Tryz.f3:=(Option.some.inj (Tryz.func3.symm.trans hfn)).symm
 refine ⟨by kernel_rfl,fun j t ht=>?_⟩
 have h:(Tryz.f3.params.toList.all fun t=>!Tryz.prog.wantsStandIn t)=true:=by kernel_rfl
 have hm:t∈Tryz.f3.params.toList:=by
  have:=Array.mem_of_getElem? ht
  exact Array.mem_toList_iff.2 this
 have:=List.all_eq_true.1 h t hm
 exact Bool.not_eq_true' _▸this
theorem card:Rows.BlastModelCardSaid :=
 Claim7.holds_tied_plain_at .later [] _ _ _ _ said (fun _ h=>by cases h) (by kernel_rfl) (fun _ h=>by cases h) blastModel_row_tie rfl ⟨rfl,rfl⟩ (by kernel_rfl) rfl plain (by kernel_rfl)
end Go.Proofs.YtoeicjlflmmmcaaGreatDoor.blastModel
namespace Go.Proofs.YtoeicjlflmmmcaaGreatDoor
theorem blastModel_holds:Rows.BlastModelCardSaid:=blastModel.card
end Go.Proofs.YtoeicjlflmmmcaaGreatDoor
