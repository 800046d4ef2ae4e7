/- Part P16 of the proof. -/
import Derived.Test.YthjhclclibpijaaGreatDoorP15
set_option linter.all false
set_option maxHeartbeats 4000000
set_option maxRecDepth 100000
namespace Go.Lift.T1
open Go Go.Lift Go.Proofs
def c6:=row 6 i6 Tryz.func6
def c9:=row 9 i9 Tryz.func9
def c33:=row 33 i33 Tryz.func33
def c37:=row 37 i37 Tryz.func37
def c38:=row 38 i38 Tryz.func38
def c42:=row 42 i42 Tryz.func42
def c44:=row 44 i44 Tryz.func44
def c46:=row 46 i46 Tryz.func46
def c47:=row 47 i47 Tryz.func47
def c52:=row 52 i52 Tryz.func52
def c54:=row 54 i54 Tryz.func54
def c59:=row 59 i59 Tryz.func59
def c64:=row 64 i64 Tryz.func64
def c65:=row 65 i65 Tryz.func65
def c68:=row 68 i68 Tryz.func68
def c70:=row 70 i70 Tryz.func70
def c71:=row 71 i71 Tryz.func71
def c85:=row 85 i85 Tryz.func85
def c89:=row 89 i89 Tryz.func89
def c91:=row 91 i91 Tryz.func91
def c96:=row 96 i96 Tryz.func96
def c105:=row 105 i105 Tryz.func105
def c107:=row 107 i107 Tryz.func107
def c108:=row 108 i108 Tryz.func108
def c117:=row 117 i117 Tryz.func117
def c121:=row 121 i121 Tryz.func121
def c122:=row 122 i122 Tryz.func122
def c127:=row 127 i127 Tryz.func127
def c132:=row 132 i132 Tryz.func132
def c135:=row 135 i135 Tryz.func135
def c136:=row 136 i136 Tryz.func136
def c144:=row 144 i144 Tryz.func144
def c150:=row 150 i150 Tryz.func150
def c155:=row 155 i155 Tryz.func155
end Go.Lift.T1
