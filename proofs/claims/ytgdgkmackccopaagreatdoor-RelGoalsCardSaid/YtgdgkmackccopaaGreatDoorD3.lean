/- Part D3 of the proof. -/
import Derived.Test.YtgdgkmackccopaaGreatDoorD0
set_option linter.all false
namespace Go.Lift.T1
open Go Go.Lift Go.Proofs
set_option maxRecDepth 100000
def c8 := row 8 i8 Tryz.func8
def c13 := row 13 i13 Tryz.func13
def c18 := row 18 i18 Tryz.func18
def c19 := row 19 i19 Tryz.func19
def c23 := row 23 i23 Tryz.func23
def c27 := row 27 i27 Tryz.func27
def c33 := row 33 i33 Tryz.func33
def c40 := row 40 i40 Tryz.func40
def c42 := row 42 i42 Tryz.func42
def c44 := row 44 i44 Tryz.func44
def c51 := row 51 i51 Tryz.func51
def c56 := row 56 i56 Tryz.func56
def c58 := row 58 i58 Tryz.func58
def c60 := row 60 i60 Tryz.func60
def c63 := row 63 i63 Tryz.func63
def c64 := row 64 i64 Tryz.func64
def c67 := row 67 i67 Tryz.func67
def c68 := row 68 i68 Tryz.func68
def c70 := row 70 i70 Tryz.func70
def c72 := row 72 i72 Tryz.func72
def c73 := row 73 i73 Tryz.func73
def c74 := row 74 i74 Tryz.func74
def c78 := row 78 i78 Tryz.func78
def c80 := row 80 i80 Tryz.func80
def c81 := row 81 i81 Tryz.func81
def c82 := row 82 i82 Tryz.func82
def c104 := row 104 i104 Tryz.func104
def c114 := row 114 i114 Tryz.func114
def c118 := row 118 i118 Tryz.func118
def c122 := row 122 i122 Tryz.func122
def c123 := row 123 i123 Tryz.func123
end Go.Lift.T1
