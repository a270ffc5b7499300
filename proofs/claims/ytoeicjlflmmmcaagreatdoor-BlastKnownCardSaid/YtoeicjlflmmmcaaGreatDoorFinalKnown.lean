/- For every input the law BlastKnown returns true, and each argument reads afterwards as it read before; the listed package variables start as the program's text lays them. -/
import Derived.Test.YtoeicjlflmmmcaaGreatDoorSeat
import Derived.Test.YtoeicjlflmmmcaaGreatDoorLawKnown
namespace Go.Proofs.YtoeicjlflmmmcaaGreatDoor.blastKnown
open Go Go.Am Go.ChangeShapes Go.WideShapes Go.ChangeAt Go.RowKit
set_option maxRecDepth 100000
theorem Qnl:∀ t∈Tryz.f4.params.toList,QuK Tryz.prog 10 t=true∧Tryz.prog.readableRec t=true∧t<Tryz.prog.types.size:=by
 have h:(Tryz.f4.params.toList.all fun t=>QuK Tryz.prog 10 t&&Tryz.prog.readableRec t&&decide (t<Tryz.prog.types.size))=true:=by kernel_rfl
 intro t ht
 have:=List.all_eq_true.1 h t ht
 simp only [Bool.and_eq_true,decide_eq_true_eq] at this
 exact ⟨this.1.1,this.1.2,this.2⟩
theorem QAG (H:Type) (enc:TypeId × Value→H) (W:World) (base:Nat) (args:Array Value) (ds gs:List (DataW H)) (before:List MemPlace)
 (hval:∀ (j:Nat) t v,Tryz.f4.params[j]?=some t→args[j]?=some v→Value.okWide Tryz.prog W .any base t v)
 (hW:DataW.Whole enc Tryz.prog Tryz.f4.params.toList Rows.blastKnownSpec.vars false W args.toList ds gs before) (hL:laidMetH Tryz.prog Rows.blastKnownRow.laid W) :
 Calls Tryz.prog 4 args W fun e W'=>∃ v,e=.returned v∧Rows.blastKnownSpec.post enc Tryz.prog Tryz.f4 false true false false W args v W' :=
 law (fn:=Tryz.f4) (n:=10) (tb:=tBool) (G:=G0) QLC Qnl (by kernel_rfl) (by kernel_rfl) rfl
  (fun ds h=>by
   have hn:Tryz.f4.params.toList.length=0:=by kernel_rfl
   rw [hn] at h
   match ds,h with
   | [],_=>rfl) hC_blastKnown (hG0 hL) hval hW
theorem reads (os:Os) {H:Type} (enc:TypeId × Value→H):∃ places,DataW.whole enc Tryz.prog ((Qlg os).forCall (fun _ _=>0) ⟨#[],#[],[]⟩).memory Tryz.f4.params.toList Rows.blastKnownSpec.vars false (#[]:Array Value).toList 12=some ([],[],places) :=
 ⟨[],by kernel_rfl⟩
theorem Qz2 (os:Os):laidMet Tryz.prog Rows.blastKnownRow.laid ((Qlg os).forCall (fun _ _=>0) ⟨#[],#[],[]⟩).memory :=
 laidMet_laidAll _ (by kernel_rfl) (by kernel_rfl)
theorem lifted (os:Os) (started:os.Started) (H:Type) (enc:TypeId × Value→H) (F:Stop.Interp) :
 ReturnsInHanded {} Tryz.checked os 4 .any ((OpenSpec.ofChange Rows.blastKnownSpec).preRow enc Tryz.prog Tryz.f4 Rows.blastKnownRow.domain false Rows.blastKnownRow.laid) (((OpenSpec.ofChange Rows.blastKnownSpec).at F).post enc Tryz.prog Tryz.f4 false true false false):=by
 obtain ⟨places,hx⟩:=reads os enc
 refine returnsInHanded_of_row (C:=Tryz.checked) (s:=OpenSpec.ofChange Rows.blastKnownSpec) own started (by kernel_rfl) Tryz.func4
  (Qq0 (enc:=enc) (C:=Tryz.checked) false (Qlg os) #[] (World.laidAll_os _ _ _) (World.shaped_of_ZipB (by kernel_rfl) (by kernel_rfl)) (by kernel_rfl)
   (OpenSpec.preRow_of_cond 12 hx (by kernel_rfl) (fun k hk=>by cases hk) (by kernel_rfl) (Qz2 os))) ?_
 intro W base args ds gs before hval hW _ _ _ hL _ _
 exact QAG H enc W base args ds gs before hval hW hL
theorem said:Rows.BlastKnownSaid :=
 OpenClaim.holds_of_cond 4 Tryz.f4 rfl rfl rfl rfl rfl rfl rfl ⟨rfl,rfl,rfl,rfl,rfl⟩ rfl rfl rfl rfl rfl (by kernel_rfl) Tryz.func4 (by kernel_rfl)
  (of_decide_eq_true (by kernel_rfl)) (by unfold Func.isWrapper; first | (rw [if_pos (by decide +kernel)]; kernel_rfl) | (rw [if_neg (by decide +kernel)]; exact ⟨rfl,rfl⟩))
  (fun os started H enc _ F=>by rw [OpenClaim.pre_eq_preRow]; exact lifted os started H enc F)
theorem plain (f : FuncId) (fn : Func) (hf : Tryz.pinned.checked.prog.funcNamed "proofmark/proofmarklaw06.BlastKnown" = some f) (hfn : Tryz.pinned.checked.prog.funcs[f]? = some fn) :
 false=Tryz.pinned.checked.prog.looks []∧∀ (j:Nat) t,fn.params[j]?=some t→Tryz.pinned.checked.prog.wantsStandIn t=false:=by
 obtain rfl : f = 4 := Option.some.inj ((show Tryz.prog.funcNamed "proofmark/proofmarklaw06.BlastKnown" = some 4 by kernel_rfl).symm.trans hf) |>.symm
 obtain rfl:fn=Tryz.f4:=(Option.some.inj (Tryz.func4.symm.trans hfn)).symm
 refine ⟨by kernel_rfl,fun j t ht=>?_⟩
 have h:(Tryz.f4.params.toList.all fun t=>!Tryz.prog.wantsStandIn t)=true:=by kernel_rfl
 have hm:t∈Tryz.f4.params.toList:=by
  have:=Array.mem_of_getElem? ht
  exact Array.mem_toList_iff.2 this
 have:=List.all_eq_true.1 h t hm
 exact Bool.not_eq_true' _▸this
theorem card:Rows.BlastKnownCardSaid :=
 Claim7.holds_tied_plain_at .later [] _ _ _ _ said (fun _ h=>by cases h) (by kernel_rfl) (fun _ h=>by cases h) blastKnown_row_tie rfl ⟨rfl,rfl⟩ (by kernel_rfl) rfl plain (by kernel_rfl)
end Go.Proofs.YtoeicjlflmmmcaaGreatDoor.blastKnown
namespace Go.Proofs.YtoeicjlflmmmcaaGreatDoor
theorem blastKnown_holds:Rows.BlastKnownCardSaid:=blastKnown.card
end Go.Proofs.YtoeicjlflmmmcaaGreatDoor
