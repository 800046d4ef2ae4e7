/- Part C2 of the proof. -/
import Derived.Test.YtedmfhgagnfbnaaGreatDoorC1
import Derived.Test.YtedmfhgagnfbnaaGreatDoorB9
set_option linter.all false
namespace Go.Lift.K
open Go Go.Lift T1
set_option maxRecDepth 100000
theorem awake_good : Good G (9, [], [.bool true]) := good_run (T := tH) allH (m := 1000) (n := 100) T1.g9 rfl rfl (by kernel_rfl)
theorem awake_ok (st : St) : callW G (.fn 9 [] []) [] st = some (.d (.bool true), st) := by
  obtain ⟨F, h1, h2, h3, h4⟩ := awake_good
  exact pure_any (ds := []) (rs := [.bool true]) h1 h2 h3 h4
theorem relChecks_true {r q : RulesT} {g : GoalT} {ty : TypeT} {names : List (List Nat)} {kids : List Int} {name : List Nat} {rank : Int} (hr : r.ok) (hq : q.ok) (hg : g.ok) (ht : ty.ok) (hns : SsOk names) (hks : LOk kids) (hnm : SOk name) (st : St) :
    callW G (.fn 3 [] []) [.d r.d, .d q.d, .d g.d, .d ty.d, .d (.sl (names.map D.str)), .d (.sl (kids.map (D.int .i64))), .d (.str name), .d (.int .i64 rank)] st = some (.d (.bool true), st) :=
  relChecks_ok hr hq hg ht hns hks hnm awake_ok st
end Go.Lift.K
