/- Part P18 of the proof. -/
import Derived.Test.YthjhclclibpijaaGreatDoorP15
set_option linter.all false
set_option maxHeartbeats 4000000
set_option maxRecDepth 100000
namespace Go.Lift.T1
open Go Go.Lift Go.Proofs
def c11:=row 11 i11 Tryz.func11
def c17:=row 17 i17 Tryz.func17
def c18:=row 18 i18 Tryz.func18
def c20:=row 20 i20 Tryz.func20
def c22:=row 22 i22 Tryz.func22
def c27:=row 27 i27 Tryz.func27
def c29:=row 29 i29 Tryz.func29
def c31:=row 31 i31 Tryz.func31
def c39:=row 39 i39 Tryz.func39
def c40:=row 40 i40 Tryz.func40
def c43:=row 43 i43 Tryz.func43
def c48:=row 48 i48 Tryz.func48
def c50:=row 50 i50 Tryz.func50
def c51:=row 51 i51 Tryz.func51
def c56:=row 56 i56 Tryz.func56
def c61:=row 61 i61 Tryz.func61
def c67:=row 67 i67 Tryz.func67
def c69:=row 69 i69 Tryz.func69
def c74:=row 74 i74 Tryz.func74
def c81:=row 81 i81 Tryz.func81
def c87:=row 87 i87 Tryz.func87
def c88:=row 88 i88 Tryz.func88
def c90:=row 90 i90 Tryz.func90
def c92:=row 92 i92 Tryz.func92
def c104:=row 104 i104 Tryz.func104
def c106:=row 106 i106 Tryz.func106
def c111:=row 111 i111 Tryz.func111
def c124:=row 124 i124 Tryz.func124
def c126:=row 126 i126 Tryz.func126
def c128:=row 128 i128 Tryz.func128
def c129:=row 129 i129 Tryz.func129
def c141:=row 141 i141 Tryz.func141
def c142:=row 142 i142 Tryz.func142
end Go.Lift.T1
