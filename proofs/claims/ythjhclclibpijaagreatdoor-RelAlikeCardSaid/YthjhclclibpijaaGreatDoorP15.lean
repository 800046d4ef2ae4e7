/- Part P15 of the proof. -/
import Derived.Test.YthjhclclibpijaaGreatDoorP14
import Derived.Test.YthjhclclibpijaaGreatDoorProg
set_option linter.all false
set_option maxHeartbeats 4000000
set_option maxRecDepth 100000
namespace Go.Lift.T1
open Go Go.Lift Go.Proofs
def Row (n:Nat):Prop:=∀F,G n=some F→∃fn,Tryz.prog.funcs[n]?=some fn∧(fn.name== "runtime.NumGoroutine")=false∧Comp Tryz.prog fn F
def row (n:Nat) (i:IFun) {fn:Func} (h1:Tryz.prog.funcs[n]?=some fn) (h: (fn.ntmps,cRes Tryz.prog fn.results.toList,fn.body.map (z0i i.nf Tryz.prog))= (i.nt,some i.res,some i.body):=by kernel_rfl) (hg:G n=some i:=by kernel_rfl) (h2: (fn.name== "runtime.NumGoroutine")=false:=by kernel_rfl):Row n:=by
 intro F h
 rw[hg] at h
 cases h
 exact⟨fn,h1,h2,y9f h⟩
def rown (n:Nat) (hg:G n=none:=by kernel_rfl):Row n:=by
 intro F h
 rw[hg] at h
 cases h
end Go.Lift.T1
