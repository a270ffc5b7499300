/- For every input the law RupKnown returns true, and each argument reads afterwards as it read before; the listed package variables start as the program's text lays them. -/
import Derived.Test.YtingdebioipemaaSeat
import Derived.Test.YtingdebioipemaaLawKnown
namespace Go.Proofs.Ytingdebioipemaa.rupKnown
open Go Go.Am Go.ChangeShapes Go.WideShapes Go.ChangeAt Go.RowKit
set_option maxRecDepth 100000
theorem Qja:∀ t∈Try.f7.params.toList,QnQ Try.prog 10 t=true∧Try.prog.readableRec t=true∧t<Try.prog.types.size:=by
 have h:(Try.f7.params.toList.all fun t=>QnQ Try.prog 10 t&&Try.prog.readableRec t&&decide (t<Try.prog.types.size))=true:=by kernel_rfl
 intro t ht
 have:=List.all_eq_true.1 h t ht
 simp only [Bool.and_eq_true,decide_eq_true_eq] at this
 exact ⟨this.1.1,this.1.2,this.2⟩
theorem Qsp (H:Type) (enc:TypeId × Value→H) (W:World) (base:Nat) (args:Array Value) (ds gs:List (DataW H)) (before:List MemPlace)
 (hval:∀ (j:Nat) t v,Try.f7.params[j]?=some t→args[j]?=some v→Value.okWide Try.prog W .any base t v)
 (hW:DataW.Whole enc Try.prog Try.f7.params.toList Rows.rupKnownSpec.vars false W args.toList ds gs before) (hL:laidMetH Try.prog Rows.rupKnownRow.laid W) :
 Calls Try.prog 7 args W fun e W'=>∃ v,e=.returned v∧Rows.rupKnownSpec.post enc Try.prog Try.f7 false true false false W args v W' :=
 law (fn:=Try.f7) (n:=10) (tb:=tBool) (G:=G0) Qw8 Qja (by kernel_rfl) (by kernel_rfl) rfl
  (fun ds h=>by
   have hn:Try.f7.params.toList.length=0:=by kernel_rfl
   rw [hn] at h
   match ds,h with
   | [],_=>rfl) hC_rupKnown hG0 hval hW
theorem reads (os:Os) {H:Type} (enc:TypeId × Value→H):∃ places,DataW.whole enc Try.prog ((Qhf os).forCall (fun _ _=>0) ⟨#[],#[],[]⟩).memory Try.f7.params.toList Rows.rupKnownSpec.vars false (#[]:Array Value).toList 12=some ([],[],places) :=
 ⟨[],by kernel_rfl⟩
theorem Qr4 (os:Os):laidMet Try.prog Rows.rupKnownRow.laid ((Qhf os).forCall (fun _ _=>0) ⟨#[],#[],[]⟩).memory :=
 laidMet_of_run' 12 (by kernel_rfl) (by kernel_rfl)
theorem lifted (os:Os) (started:os.Started) (H:Type) (enc:TypeId × Value→H) (F:Stop.Interp) :
 ReturnsInHanded {} Try.checked os 7 .any ((OpenSpec.ofChange Rows.rupKnownSpec).preRow enc Try.prog Try.f7 Rows.rupKnownRow.domain false Rows.rupKnownRow.laid) (((OpenSpec.ofChange Rows.rupKnownSpec).at F).post enc Try.prog Try.f7 false true false false):=by
 obtain ⟨places,hx⟩:=reads os enc
 refine returnsInHanded_of_row (C:=Try.checked) (s:=OpenSpec.ofChange Rows.rupKnownSpec) own started (by kernel_rfl) Try.func7
  (witness_row_at (enc:=enc) (C:=Try.checked) false (Qhf os) #[] rfl (by kernel_rfl) (by kernel_rfl) (by kernel_rfl)
   (OpenSpec.preRow_of_cond 12 hx (by kernel_rfl) (fun k hk=>by cases hk) (by kernel_rfl) (Qr4 os))) ?_
 intro W base args ds gs before hval hW _ _ _ hL _ _
 exact Qsp H enc W base args ds gs before hval hW hL
theorem said:Rows.RupKnownSaid :=
 OpenClaim.holds_of_cond 7 Try.f7 rfl rfl rfl rfl rfl rfl rfl ⟨rfl,rfl,rfl,rfl,rfl⟩ rfl rfl rfl rfl rfl (by kernel_rfl) Try.func7 (by kernel_rfl)
  (of_decide_eq_true (by kernel_rfl)) (by unfold Func.isWrapper; first | (rw [if_pos (by decide +kernel)]; kernel_rfl) | (rw [if_neg (by decide +kernel)]; exact ⟨rfl,rfl⟩))
  (fun os started H enc _ F=>by rw [OpenClaim.pre_eq_preRow]; exact lifted os started H enc F)
end Go.Proofs.Ytingdebioipemaa.rupKnown
namespace Go.Proofs.Ytingdebioipemaa
theorem rupKnown_holds:Rows.RupKnownSaid:=rupKnown.said
end Go.Proofs.Ytingdebioipemaa
