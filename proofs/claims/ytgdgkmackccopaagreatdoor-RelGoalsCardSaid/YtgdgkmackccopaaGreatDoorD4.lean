/- Part D4 of the proof. -/
import Derived.Test.YtgdgkmackccopaaGreatDoorD0
set_option linter.all false
namespace Go.Lift.T1
open Go Go.Lift Go.Proofs
set_option maxRecDepth 100000
def c3 := row 3 i3 Tryz.func3
def c7 := row 7 i7 Tryz.func7
def c9 := row 9 i9 Tryz.func9
def c14 := row 14 i14 Tryz.func14
def c21 := row 21 i21 Tryz.func21
def c25 := row 25 i25 Tryz.func25
def c43 := row 43 i43 Tryz.func43
def c49 := row 49 i49 Tryz.func49
def c50 := row 50 i50 Tryz.func50
def c52 := row 52 i52 Tryz.func52
def c53 := row 53 i53 Tryz.func53
def c55 := row 55 i55 Tryz.func55
def c77 := row 77 i77 Tryz.func77
def c83 := row 83 i83 Tryz.func83
def c87 := row 87 i87 Tryz.func87
def c88 := row 88 i88 Tryz.func88
def c90 := row 90 i90 Tryz.func90
def c95 := row 95 i95 Tryz.func95
def c96 := row 96 i96 Tryz.func96
def c99 := row 99 i99 Tryz.func99
def c102 := row 102 i102 Tryz.func102
def c111 := row 111 i111 Tryz.func111
def c112 := row 112 i112 Tryz.func112
def c113 := row 113 i113 Tryz.func113
def c116 := row 116 i116 Tryz.func116
def c120 := row 120 i120 Tryz.func120
def c129 := row 129 i129 Tryz.func129
def c132 := row 132 i132 Tryz.func132
def c139 := row 139 i139 Tryz.func139
def c140 := row 140 i140 Tryz.func140
def c145 := row 145 i145 Tryz.func145
end Go.Lift.T1
