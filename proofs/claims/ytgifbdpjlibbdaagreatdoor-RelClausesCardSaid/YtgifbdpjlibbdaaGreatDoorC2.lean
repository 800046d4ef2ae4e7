/- Part C2 of the proof. -/
import Derived.Test.YtgifbdpjlibbdaaGreatDoorC1
import Derived.Test.YtgifbdpjlibbdaaGreatDoorC5
set_option linter.all false
namespace Go.Lift.K
open Go Go.Lift T1
set_option maxRecDepth 100000
theorem zn1 : Good G (6, [], [.bool true]) := z0a (T := tH) allH (m := 1000) (n := 100) T1.g6 rfl rfl (by kernel_rfl)
theorem zv9 (st : St) : z05 G (.fn 6 [] []) [] st = some (.d (.bool true), st) := by
 obtain ⟨F, h1, h2, h3, h4⟩ := zn1
 exact ztc (ds := []) (rs := [.bool true]) h1 h2 h3 h4
theorem zar {r : RulesT} {n : Int} {g o : GoalT} (hr : r.ok) (hn : IOk n) (hg : g.ok) (ho : o.ok) (st : St) :
  z05 G (.fn 3 [] []) [.d r.d, .d (.int .i64 n), .d g.d, .d o.d] st = some (.d (.bool true), st) :=
 zdy hr hn hg ho zv9 st
end Go.Lift.K
