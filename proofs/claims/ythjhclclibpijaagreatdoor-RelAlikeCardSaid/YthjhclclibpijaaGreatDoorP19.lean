/- Part P19 of the proof. -/
import Derived.Test.YthjhclclibpijaaGreatDoorP15
set_option linter.all false
set_option maxHeartbeats 4000000
set_option maxRecDepth 100000
namespace Go.Lift.T1
open Go Go.Lift Go.Proofs
def c3:=row 3 i3 Tryz.func3
def c5:=row 5 i5 Tryz.func5
def c7:=row 7 i7 Tryz.func7
def c13:=row 13 i13 Tryz.func13
def c16:=row 16 i16 Tryz.func16
def c23:=row 23 i23 Tryz.func23
def c24:=row 24 i24 Tryz.func24
def c25:=row 25 i25 Tryz.func25
def c26:=row 26 i26 Tryz.func26
def c30:=row 30 i30 Tryz.func30
def c32:=row 32 i32 Tryz.func32
def c41:=row 41 i41 Tryz.func41
def c49:=row 49 i49 Tryz.func49
def c53:=row 53 i53 Tryz.func53
def c58:=row 58 i58 Tryz.func58
def c72:=row 72 i72 Tryz.func72
def c75:=row 75 i75 Tryz.func75
def c77:=row 77 i77 Tryz.func77
def c78:=row 78 i78 Tryz.func78
def c79:=row 79 i79 Tryz.func79
def c80:=row 80 i80 Tryz.func80
def c82:=row 82 i82 Tryz.func82
def c86:=row 86 i86 Tryz.func86
def c93:=row 93 i93 Tryz.func93
def c99:=row 99 i99 Tryz.func99
def c100:=row 100 i100 Tryz.func100
def c101:=row 101 i101 Tryz.func101
def c115:=row 115 i115 Tryz.func115
def c116:=row 116 i116 Tryz.func116
def c123:=row 123 i123 Tryz.func123
def c140:=row 140 i140 Tryz.func140
def c148:=row 148 i148 Tryz.func148
def c149:=row 149 i149 Tryz.func149
end Go.Lift.T1
