/- For every input of roundelaylaw12.RelGoals the call returns true, and each argument reads afterwards as it read before. Conditions: those of the given card (package variables start as the program's text lays them); no others. -/
import Derived.Test.YtgdgkmackccopaaGreatDoorE2
set_option linter.all false
namespace Go.Lift.K
open Go Go.Lift Go.Proofs Go.Proofs.YtgdgkmackccopaaGreatDoor
open Go.ChangeShapes Go.WideShapes Go.ChangeAt Go.RowKit
set_option maxRecDepth 100000
theorem y25 (os : Os) (started : os.Started) (H : Type) (enc : TypeId × Value → H) (F : Stop.Interp) :
  ReturnsInHanded {} Tryz.checked os 3 .any ((OpenSpec.ofChange Rows.relGoalsSpec).preRow enc Tryz.prog Tryz.f3 Rows.relGoalsRow.domain false Rows.relGoalsRow.laid) (((OpenSpec.ofChange Rows.relGoalsSpec).at F).post enc Tryz.prog Tryz.f3 false true false false) := by
 obtain ⟨places, hx⟩ := y0o os enc
 refine returnsInHanded_of_row (C := Tryz.checked) (s := OpenSpec.ofChange Rows.relGoalsSpec) own started (by kernel_rfl) Tryz.func3
  (witness_row_at (enc := enc) (C := Tryz.checked) false (zai os) wargs rfl (by kernel_rfl) (by kernel_rfl) (by kernel_rfl)
   (OpenSpec.preRow_of_cond 8 hx (by kernel_rfl) (fun k hk => by cases hk) (by kernel_rfl) (zu9 os))) ?_
 intro W base args ds gs before hval hW _ _ _ hL _ _
 exact zvd H enc W base args ds gs before hval hW
theorem said : Rows.RelGoalsSaid :=
 OpenClaim.holds_of_cond 3 Tryz.f3 rfl rfl rfl rfl rfl rfl rfl ⟨rfl, rfl, rfl, rfl, rfl⟩ rfl rfl rfl rfl rfl (by kernel_rfl) Tryz.func3 (by kernel_rfl)
  (of_decide_eq_true (by kernel_rfl)) (by unfold Func.isWrapper; first | (rw [if_pos (by decide +kernel)]; kernel_rfl) | (rw [if_neg (by decide +kernel)]; exact ⟨rfl, rfl⟩))
  (fun os started H enc _ F => by rw [OpenClaim.pre_eq_preRow]; exact y25 os started H enc F)
theorem zyf (f : FuncId) (fn : Func) (hf : Tryz.pinned.checked.prog.funcNamed "roundelay/roundelaylaw12.RelGoals" = some f) (hfn : Tryz.pinned.checked.prog.funcs[f]? = some fn) :
  false = Tryz.pinned.checked.prog.looks [] ∧ ∀ (j : Nat) t, fn.params[j]? = some t → Tryz.pinned.checked.prog.wantsStandIn t = false := by
 obtain rfl : f = 3 := Option.some.inj ((show Tryz.prog.funcNamed "roundelay/roundelaylaw12.RelGoals" = some 3 by kernel_rfl).symm.trans hf) |>.symm
 obtain rfl : fn = Tryz.f3 := (Option.some.inj (Tryz.func3.symm.trans hfn)).symm
 refine ⟨by kernel_rfl, fun j t ht => ?_⟩
 rw [Tryz.params3] at ht
 have h : ([22, 22] : List TypeId).all (fun t => !Tryz.prog.wantsStandIn t) = true := by kernel_rfl
 have h2 := List.all_eq_true.1 h t (by have := Array.mem_of_getElem? ht; simpa using this)
 have h3 : Tryz.prog.wantsStandIn t = false := by simpa using h2
 exact h3
theorem card : Rows.RelGoalsCardSaid :=
 Claim7.holds_tied_plain_at .later [] _ _ _ _ said (fun _ h => by cases h) (by kernel_rfl) (fun _ h => by cases h) relGoals_row_tie rfl ⟨rfl, rfl⟩ (by kernel_rfl) rfl zyf (by kernel_rfl)
end Go.Lift.K
namespace Go.Proofs.YtgdgkmackccopaaGreatDoor
theorem relGoals_holds : Rows.RelGoalsCardSaid := Go.Lift.K.card
end Go.Proofs.YtgdgkmackccopaaGreatDoor
