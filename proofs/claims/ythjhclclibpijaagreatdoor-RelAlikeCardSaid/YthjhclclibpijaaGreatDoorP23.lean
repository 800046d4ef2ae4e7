/- For every input of roundelaylaw12.RelAlike the call returns true, and each argument reads afterwards as it read before. Conditions: those of the given card (package variables start as the program's text lays them); no others. -/
import Derived.Test.YthjhclclibpijaaGreatDoorP22
set_option linter.all false
set_option maxHeartbeats 4000000
set_option maxRecDepth 100000
namespace Go.Lift.K
open Go Go.Lift Go.Proofs Go.Proofs.YthjhclclibpijaaGreatDoor
open Go.ChangeShapes Go.WideShapes Go.ChangeAt Go.RowKit
def y6y (os:Os) (started:os.Started) (H:Type) (enc:TypeId×Value→H) (F:Stop.Interp):
  ReturnsInHanded {} Tryz.checked os 3 .any ((OpenSpec.ofChange Rows.relAlikeSpec).preRow enc Tryz.prog Tryz.f3 Rows.relAlikeRow.domain false Rows.relAlikeRow.laid) (((OpenSpec.ofChange Rows.relAlikeSpec).at F).post enc Tryz.prog Tryz.f3 false true false false):=by
 obtain⟨places,hx⟩:=y5e os enc
 refine returnsInHanded_of_row (C:=Tryz.checked) (s:=OpenSpec.ofChange Rows.relAlikeSpec) own started (by kernel_rfl) Tryz.func3
  (witness_row_at (enc:=enc) (C:=Tryz.checked) false (zc5 os) wargs rfl (by kernel_rfl) (by kernel_rfl) (by kernel_rfl)
   (OpenSpec.preRow_of_cond 8 hx (by kernel_rfl) (fun k hk=>by cases hk) (by kernel_rfl) (zy5 os))) ?_
 intro W base args ds gs before hval hW _ _ _ hL _ _
 exact zzj H enc W base args ds gs before hval hW
theorem said:Rows.RelAlikeSaid:=
 OpenClaim.holds_of_cond 3 Tryz.f3 rfl rfl rfl rfl rfl rfl rfl ⟨rfl,rfl,rfl,rfl,rfl⟩ rfl rfl rfl rfl rfl (by kernel_rfl) Tryz.func3 (by kernel_rfl)
  (of_decide_eq_true (by kernel_rfl)) (by unfold Func.isWrapper;first| (rw[if_pos (by decide+kernel)];kernel_rfl)| (rw[if_neg (by decide+kernel)];exact⟨rfl,rfl⟩))
  (fun os started H enc _ F=>by rw[OpenClaim.pre_eq_preRow];exact y6y os started H enc F)
def y2u (f:FuncId) (fn:Func) (hf:Tryz.pinned.checked.prog.funcNamed "roundelay/roundelaylaw12.RelAlike" =some f) (hfn:Tryz.pinned.checked.prog.funcs[f]?=some fn):
  false=Tryz.pinned.checked.prog.looks []∧∀(j:Nat) t,fn.params[j]?=some t→Tryz.pinned.checked.prog.wantsStandIn t=false:=by
 obtain rfl:f=3:=Option.some.inj ((show Tryz.prog.funcNamed "roundelay/roundelaylaw12.RelAlike" =some 3 by kernel_rfl).symm.trans hf)|>.symm
 obtain rfl:fn=Tryz.f3:= (Option.some.inj (Tryz.func3.symm.trans hfn)).symm
 refine⟨by kernel_rfl,fun j t ht=> ?_⟩
 rw[Tryz.params3] at ht
 have h: ([22,22,22]:List TypeId).all (fun t=> !Tryz.prog.wantsStandIn t)=true:=by kernel_rfl
 have h2:=List.all_eq_true.1 h t (by have:=Array.mem_of_getElem? ht;simpa using this)
 have h3:Tryz.prog.wantsStandIn t=false:=by simpa using h2
 exact h3
theorem card:Rows.RelAlikeCardSaid:=
 Claim7.holds_tied_plain_at .later [] _ _ _ _ said (fun _ h=>by cases h) (by kernel_rfl) (fun _ h=>by cases h) relAlike_row_tie rfl ⟨rfl,rfl⟩ (by kernel_rfl) rfl y2u (by kernel_rfl)
end Go.Lift.K
namespace Go.Proofs.YthjhclclibpijaaGreatDoor
theorem relAlike_holds:Rows.RelAlikeCardSaid:=Go.Lift.K.card
end Go.Proofs.YthjhclclibpijaaGreatDoor
