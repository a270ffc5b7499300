/- For every input the law LiftBegin returns true, and each argument reads afterwards as it read before; the listed package variables start as the program's text lays them. -/
import Derived.Test.YtbdhjeojcpgblaaGreatDoorSeat
import Derived.Test.YtbdhjeojcpgblaaGreatDoorLawBegin
namespace Go.Proofs.YtbdhjeojcpgblaaGreatDoor.liftBegin
open Go Go.Am Go.ChangeShapes Go.WideShapes Go.ChangeAt Go.RowKit
set_option maxRecDepth 100000
theorem Qp7:∀ t∈Tryz.f3.params.toList,QyD Tryz.prog 10 t=true∧Tryz.prog.readableRec t=true∧t<Tryz.prog.types.size:=by
 have h:(Tryz.f3.params.toList.all fun t=>QyD Tryz.prog 10 t&&Tryz.prog.readableRec t&&decide (t<Tryz.prog.types.size))=true:=by kernel_rfl
 intro t ht
 have:=List.all_eq_true.1 h t ht
 simp only [Bool.and_eq_true,decide_eq_true_eq] at this
 exact ⟨this.1.1,this.1.2,this.2⟩
theorem QFO (H:Type) (enc:TypeId × Value→H) (W:World) (base:Nat) (args:Array Value) (ds gs:List (DataW H)) (before:List MemPlace)
 (hval:∀ (j:Nat) t v,Tryz.f3.params[j]?=some t→args[j]?=some v→Value.okWide Tryz.prog W .any base t v)
 (hW:DataW.Whole enc Tryz.prog Tryz.f3.params.toList Rows.liftBeginSpec.vars false W args.toList ds gs before) (hL:laidMetH Tryz.prog Rows.liftBeginRow.laid W) :
 Calls Tryz.prog 3 args W fun e W'=>∃ v,e=.returned v∧Rows.liftBeginSpec.post enc Tryz.prog Tryz.f3 false true false false W args v W' :=
 law (fn:=Tryz.f3) (n:=10) (tb:=tBool) (G:=G0) QSs Qp7 (by kernel_rfl) (by kernel_rfl) rfl
  (fun ds h=>by
   have hn:Tryz.f3.params.toList.length=3:=by kernel_rfl
   rw [hn] at h
   match ds,h with
   | [_,_,_],_=>rfl) hC_liftBegin (hG0 hL) hval hW
theorem reads (os:Os) {H:Type} (enc:TypeId × Value→H):∃ places,DataW.whole enc Tryz.prog ((Qnd os).forCall (fun _ _=>0) ⟨#[],#[.agg #[.int .i64 0,.slice none 0 0,.slice none 0 0],.int .i64 0,.int .i64 0],[]⟩).memory Tryz.f3.params.toList Rows.liftBeginSpec.vars false (#[.agg #[.int .i64 0,.slice none 0 0,.slice none 0 0],.int .i64 0,.int .i64 0]:Array Value).toList 12=some ([.agg [.lit (.int .i64 0),.nil,.nil],.lit (.int .i64 0),.lit (.int .i64 0)],[],places) :=
 ⟨[],by kernel_rfl⟩
theorem QFb (os:Os):laidMet Tryz.prog Rows.liftBeginRow.laid ((Qnd os).forCall (fun _ _=>0) ⟨#[],#[.agg #[.int .i64 0,.slice none 0 0,.slice none 0 0],.int .i64 0,.int .i64 0],[]⟩).memory :=
 laidMet_of_run' 12 (by kernel_rfl) (by kernel_rfl)
theorem lifted (os:Os) (started:os.Started) (H:Type) (enc:TypeId × Value→H) (F:Stop.Interp) :
 ReturnsInHanded {} Tryz.checked os 3 .any ((OpenSpec.ofChange Rows.liftBeginSpec).preRow enc Tryz.prog Tryz.f3 Rows.liftBeginRow.domain false Rows.liftBeginRow.laid) (((OpenSpec.ofChange Rows.liftBeginSpec).at F).post enc Tryz.prog Tryz.f3 false true false false):=by
 obtain ⟨places,hx⟩:=reads os enc
 refine returnsInHanded_of_row (C:=Tryz.checked) (s:=OpenSpec.ofChange Rows.liftBeginSpec) own started (by kernel_rfl) Tryz.func3
  (witness_row_at (enc:=enc) (C:=Tryz.checked) false (Qnd os) #[.agg #[.int .i64 0,.slice none 0 0,.slice none 0 0],.int .i64 0,.int .i64 0] rfl (by kernel_rfl) (by kernel_rfl) (by kernel_rfl)
   (OpenSpec.preRow_of_cond 12 hx (by kernel_rfl) (fun k hk=>by cases hk) (by kernel_rfl) (QFb os))) ?_
 intro W base args ds gs before hval hW _ _ _ hL _ _
 exact QFO H enc W base args ds gs before hval hW hL
theorem said:Rows.LiftBeginSaid :=
 OpenClaim.holds_of_cond 3 Tryz.f3 rfl rfl rfl rfl rfl rfl rfl ⟨rfl,rfl,rfl,rfl,rfl⟩ rfl rfl rfl rfl rfl (by kernel_rfl) Tryz.func3 (by kernel_rfl)
  (of_decide_eq_true (by kernel_rfl)) (by unfold Func.isWrapper; first | (rw [if_pos (by decide +kernel)]; kernel_rfl) | (rw [if_neg (by decide +kernel)]; exact ⟨rfl,rfl⟩))
  (fun os started H enc _ F=>by rw [OpenClaim.pre_eq_preRow]; exact lifted os started H enc F)
theorem plain (f : FuncId) (fn : Func) (hf : Tryz.pinned.checked.prog.funcNamed "proofmark/proofmarklaw23.LiftBegin" = some f) (hfn : Tryz.pinned.checked.prog.funcs[f]? = some fn) :
 false=Tryz.pinned.checked.prog.looks []∧∀ (j:Nat) t,fn.params[j]?=some t→Tryz.pinned.checked.prog.wantsStandIn t=false:=by
 obtain rfl : f = 3 := Option.some.inj ((show Tryz.prog.funcNamed "proofmark/proofmarklaw23.LiftBegin" = some 3 by kernel_rfl).symm.trans hf) |>.symm
 obtain rfl:fn=Tryz.f3:=(Option.some.inj (Tryz.func3.symm.trans hfn)).symm
 refine ⟨by kernel_rfl,fun j t ht=>?_⟩
 have h:(Tryz.f3.params.toList.all fun t=>!Tryz.prog.wantsStandIn t)=true:=by kernel_rfl
 have hm:t∈Tryz.f3.params.toList:=by
  have:=Array.mem_of_getElem? ht
  exact Array.mem_toList_iff.2 this
 have:=List.all_eq_true.1 h t hm
 exact Bool.not_eq_true' _▸this
theorem card:Rows.LiftBeginCardSaid :=
 Claim7.holds_tied_plain_at .later [] _ _ _ _ said (fun _ h=>by cases h) (by kernel_rfl) (fun _ h=>by cases h) liftBegin_row_tie rfl ⟨rfl,rfl⟩ (by kernel_rfl) rfl plain (by kernel_rfl)
end Go.Proofs.YtbdhjeojcpgblaaGreatDoor.liftBegin
namespace Go.Proofs.YtbdhjeojcpgblaaGreatDoor
theorem liftBegin_holds:Rows.LiftBeginCardSaid:=liftBegin.card
end Go.Proofs.YtbdhjeojcpgblaaGreatDoor
