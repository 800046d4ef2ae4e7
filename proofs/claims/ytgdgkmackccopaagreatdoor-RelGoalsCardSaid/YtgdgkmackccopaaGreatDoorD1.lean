/- Part D1 of the proof. -/
import Derived.Test.YtgdgkmackccopaaGreatDoorD0
set_option linter.all false
namespace Go.Lift.T1
open Go Go.Lift Go.Proofs
set_option maxRecDepth 100000
def c5 := row 5 i5 Tryz.func5
def c11 := row 11 i11 Tryz.func11
def c15 := row 15 i15 Tryz.func15
def c17 := row 17 i17 Tryz.func17
def c22 := row 22 i22 Tryz.func22
def c26 := row 26 i26 Tryz.func26
def c30 := row 30 i30 Tryz.func30
def c31 := row 31 i31 Tryz.func31
def c32 := row 32 i32 Tryz.func32
def c35 := row 35 i35 Tryz.func35
def c36 := row 36 i36 Tryz.func36
def c37 := row 37 i37 Tryz.func37
def c38 := row 38 i38 Tryz.func38
def c39 := row 39 i39 Tryz.func39
def c41 := row 41 i41 Tryz.func41
def c59 := row 59 i59 Tryz.func59
def c62 := row 62 i62 Tryz.func62
def c65 := row 65 i65 Tryz.func65
def c66 := row 66 i66 Tryz.func66
def c69 := row 69 i69 Tryz.func69
def c75 := row 75 i75 Tryz.func75
def c79 := row 79 i79 Tryz.func79
def c92 := row 92 i92 Tryz.func92
def c94 := row 94 i94 Tryz.func94
def c98 := row 98 i98 Tryz.func98
def c115 := row 115 i115 Tryz.func115
def c119 := row 119 i119 Tryz.func119
def c121 := row 121 i121 Tryz.func121
def c128 := row 128 i128 Tryz.func128
def c134 := row 134 i134 Tryz.func134
def c135 := row 135 i135 Tryz.func135
end Go.Lift.T1
