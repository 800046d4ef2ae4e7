/- Part P20 of the proof. -/
import Derived.Test.YthjhclclibpijaaGreatDoorP16
import Derived.Test.YthjhclclibpijaaGreatDoorP17
import Derived.Test.YthjhclclibpijaaGreatDoorP18
import Derived.Test.YthjhclclibpijaaGreatDoorP19
set_option linter.all false
set_option maxHeartbeats 4000000
set_option maxRecDepth 100000
namespace Go.Lift.T1
open Go Go.Lift Go.Proofs
def step {n:Nat} (h:∀f,f<n→Row f) (hn:Row n) (f:Nat) (hf:f<n+1):Row f:=
 (Nat.lt_succ_iff_lt_or_eq.1 hf).elim (h f) (fun e=>e▸hn)
def s0:∀f,f<0→Row f:=fun _ h=> (Nat.not_lt_zero _ h).elim
def s1:=step s0 (rown 0)
def s2:=step s1 (rown 1)
def s3:=step s2 (rown 2)
def s4:=step s3 c3
def s5:=step s4 c4
def s6:=step s5 c5
def s7:=step s6 c6
def s8:=step s7 c7
def s9:=step s8 c8
def s10:=step s9 c9
def s11:=step s10 c10
def s12:=step s11 c11
def s13:=step s12 c12
def s14:=step s13 c13
def s15:=step s14 c14
def s16:=step s15 c15
def s17:=step s16 c16
def s18:=step s17 c17
def s19:=step s18 c18
def s20:=step s19 (rown 19)
def s21:=step s20 c20
def s22:=step s21 c21
def s23:=step s22 c22
def s24:=step s23 c23
def s25:=step s24 c24
def s26:=step s25 c25
def s27:=step s26 c26
def s28:=step s27 c27
def s29:=step s28 c28
def s30:=step s29 c29
def s31:=step s30 c30
def s32:=step s31 c31
def s33:=step s32 c32
def s34:=step s33 c33
def s35:=step s34 c34
def s36:=step s35 c35
def s37:=step s36 c36
def s38:=step s37 c37
def s39:=step s38 c38
def s40:=step s39 c39
def s41:=step s40 c40
def s42:=step s41 c41
def s43:=step s42 c42
def s44:=step s43 c43
def s45:=step s44 c44
def s46:=step s45 (rown 45)
def s47:=step s46 c46
def s48:=step s47 c47
def s49:=step s48 c48
def s50:=step s49 c49
def s51:=step s50 c50
def s52:=step s51 c51
def s53:=step s52 c52
def s54:=step s53 c53
def s55:=step s54 c54
def s56:=step s55 c55
def s57:=step s56 c56
def s58:=step s57 c57
def s59:=step s58 c58
def s60:=step s59 c59
def s61:=step s60 c60
def s62:=step s61 c61
def s63:=step s62 c62
def s64:=step s63 c63
def s65:=step s64 c64
def s66:=step s65 c65
def s67:=step s66 c66
def s68:=step s67 c67
def s69:=step s68 c68
def s70:=step s69 c69
def s71:=step s70 c70
def s72:=step s71 c71
def s73:=step s72 c72
def s74:=step s73 c73
def s75:=step s74 c74
def s76:=step s75 c75
def s77:=step s76 c76
def s78:=step s77 c77
def s79:=step s78 c78
def s80:=step s79 c79
def s81:=step s80 c80
def s82:=step s81 c81
def s83:=step s82 c82
def s84:=step s83 c83
def s85:=step s84 c84
def s86:=step s85 c85
def s87:=step s86 c86
def s88:=step s87 c87
def s89:=step s88 c88
def s90:=step s89 c89
def s91:=step s90 c90
def s92:=step s91 c91
def s93:=step s92 c92
def s94:=step s93 c93
def s95:=step s94 c94
def s96:=step s95 c95
def s97:=step s96 c96
def s98:=step s97 c97
def s99:=step s98 c98
def s100:=step s99 c99
def s101:=step s100 c100
def s102:=step s101 c101
def s103:=step s102 (rown 102)
def s104:=step s103 (rown 103)
def s105:=step s104 c104
def s106:=step s105 c105
def s107:=step s106 c106
def s108:=step s107 c107
def s109:=step s108 c108
def s110:=step s109 c109
def s111:=step s110 c110
def s112:=step s111 c111
def s113:=step s112 c112
def s114:=step s113 (rown 113)
def s115:=step s114 (rown 114)
def s116:=step s115 c115
def s117:=step s116 c116
def s118:=step s117 c117
def s119:=step s118 (rown 118)
def s120:=step s119 (rown 119)
def s121:=step s120 c120
def s122:=step s121 c121
def s123:=step s122 c122
def s124:=step s123 c123
def s125:=step s124 c124
def s126:=step s125 c125
def s127:=step s126 c126
def s128:=step s127 c127
def s129:=step s128 c128
def s130:=step s129 c129
def s131:=step s130 c130
def s132:=step s131 c131
def s133:=step s132 c132
def s134:=step s133 (rown 133)
def s135:=step s134 (rown 134)
def s136:=step s135 c135
def s137:=step s136 c136
def s138:=step s137 (rown 137)
def s139:=step s138 (rown 138)
def s140:=step s139 (rown 139)
def s141:=step s140 c140
def s142:=step s141 c141
def s143:=step s142 c142
def s144:=step s143 c143
def s145:=step s144 c144
def s146:=step s145 (rown 145)
def s147:=step s146 (rown 146)
def s148:=step s147 (rown 147)
def s149:=step s148 c148
def s150:=step s149 c149
def s151:=step s150 c150
def s152:=step s151 (rown 151)
def s153:=step s152 (rown 152)
def s154:=step s153 (rown 153)
def s155:=step s154 (rown 154)
def s156:=step s155 c155
def y96 (n:Nat):G (n+156)=none:=by kernel_rfl
def table:zw3 Tryz.prog G:=fun f F h=>by
 by_cases hf:f<156
 ·exact s156 f hf F h
 ·have e:f= (f-156)+156:=ω
  exact rown f (by rw[e];exact y96 _) F h
def mixed:Tryz.prog.follows .mixedOrders=true:=by kernel_rfl
end Go.Lift.T1
