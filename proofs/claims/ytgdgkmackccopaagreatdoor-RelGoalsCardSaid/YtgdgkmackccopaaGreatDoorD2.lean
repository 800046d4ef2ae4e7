/- Part D2 of the proof. -/
import Derived.Test.YtgdgkmackccopaaGreatDoorD0
set_option linter.all false
namespace Go.Lift.T1
open Go Go.Lift Go.Proofs
set_option maxRecDepth 100000
def c4 := row 4 i4 Tryz.func4
def c6 := row 6 i6 Tryz.func6
def c10 := row 10 i10 Tryz.func10
def c12 := row 12 i12 Tryz.func12
def c16 := row 16 i16 Tryz.func16
def c20 := row 20 i20 Tryz.func20
def c24 := row 24 i24 Tryz.func24
def c28 := row 28 i28 Tryz.func28
def c29 := row 29 i29 Tryz.func29
def c34 := row 34 i34 Tryz.func34
def c45 := row 45 i45 Tryz.func45
def c46 := row 46 i46 Tryz.func46
def c47 := row 47 i47 Tryz.func47
def c48 := row 48 i48 Tryz.func48
def c54 := row 54 i54 Tryz.func54
def c57 := row 57 i57 Tryz.func57
def c71 := row 71 i71 Tryz.func71
def c76 := row 76 i76 Tryz.func76
def c86 := row 86 i86 Tryz.func86
def c89 := row 89 i89 Tryz.func89
def c91 := row 91 i91 Tryz.func91
def c93 := row 93 i93 Tryz.func93
def c97 := row 97 i97 Tryz.func97
def c103 := row 103 i103 Tryz.func103
def c107 := row 107 i107 Tryz.func107
def c108 := row 108 i108 Tryz.func108
def c117 := row 117 i117 Tryz.func117
def c124 := row 124 i124 Tryz.func124
def c130 := row 130 i130 Tryz.func130
def c131 := row 131 i131 Tryz.func131
def c133 := row 133 i133 Tryz.func133
end Go.Lift.T1
