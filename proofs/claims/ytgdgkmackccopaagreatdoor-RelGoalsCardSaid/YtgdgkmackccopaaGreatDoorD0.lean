/- Part D0 of the proof. -/
import Derived.Test.YtgdgkmackccopaaGreatDoorB1
import Derived.Test.YtgdgkmackccopaaGreatDoorA7
import Derived.Test.YtgdgkmackccopaaGreatDoorA5
import Derived.Test.YtgdgkmackccopaaGreatDoorProg
import Derived.KernelRfl
set_option linter.all false
namespace Go.Lift.T1
open Go Go.Lift Go.Proofs
set_option maxRecDepth 100000
def Row (n : Nat) : Prop := ∀ F, G n = some F → ∃ fn, Tryz.prog.funcs[n]? = some fn ∧ (fn.name == "runtime.NumGoroutine") = false ∧ Comp Tryz.prog fn F
theorem row (n : Nat) (i : IFun) {fn : Func} (h1 : Tryz.prog.funcs[n]? = some fn) (h : (fn.ntmps, cRes Tryz.prog fn.results.toList, fn.body.map (z0d i.nf Tryz.prog)) = (i.nt, some i.res, some i.body) := by kernel_rfl) (hg : G n = some i := by kernel_rfl) (h2 : (fn.name == "runtime.NumGoroutine") = false := by kernel_rfl) : Row n := by
 intro F h
 rw [hg] at h
 cases h
 exact ⟨fn, h1, h2, y4d h⟩
theorem rown (n : Nat) (hg : G n = none := by kernel_rfl) : Row n := by
 intro F h
 rw [hg] at h
 cases h
end Go.Lift.T1
