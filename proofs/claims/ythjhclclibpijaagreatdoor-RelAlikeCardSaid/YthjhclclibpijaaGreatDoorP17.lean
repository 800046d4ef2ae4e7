/- Part P17 of the proof. -/
import Derived.Test.YthjhclclibpijaaGreatDoorP15
set_option linter.all false
set_option maxHeartbeats 4000000
set_option maxRecDepth 100000
namespace Go.Lift.T1
open Go Go.Lift Go.Proofs
def c4:=row 4 i4 Tryz.func4
def c8:=row 8 i8 Tryz.func8
def c10:=row 10 i10 Tryz.func10
def c12:=row 12 i12 Tryz.func12
def c14:=row 14 i14 Tryz.func14
def c15:=row 15 i15 Tryz.func15
def c21:=row 21 i21 Tryz.func21
def c28:=row 28 i28 Tryz.func28
def c34:=row 34 i34 Tryz.func34
def c35:=row 35 i35 Tryz.func35
def c36:=row 36 i36 Tryz.func36
def c55:=row 55 i55 Tryz.func55
def c57:=row 57 i57 Tryz.func57
def c60:=row 60 i60 Tryz.func60
def c62:=row 62 i62 Tryz.func62
def c63:=row 63 i63 Tryz.func63
def c66:=row 66 i66 Tryz.func66
def c73:=row 73 i73 Tryz.func73
def c76:=row 76 i76 Tryz.func76
def c83:=row 83 i83 Tryz.func83
def c84:=row 84 i84 Tryz.func84
def c94:=row 94 i94 Tryz.func94
def c95:=row 95 i95 Tryz.func95
def c97:=row 97 i97 Tryz.func97
def c98:=row 98 i98 Tryz.func98
def c109:=row 109 i109 Tryz.func109
def c110:=row 110 i110 Tryz.func110
def c112:=row 112 i112 Tryz.func112
def c120:=row 120 i120 Tryz.func120
def c125:=row 125 i125 Tryz.func125
def c130:=row 130 i130 Tryz.func130
def c131:=row 131 i131 Tryz.func131
def c143:=row 143 i143 Tryz.func143
end Go.Lift.T1
