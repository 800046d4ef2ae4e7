/- Part D2 of the proof. -/
import Derived.Test.YtgifbdpjlibbdaaGreatDoorB1
import Derived.Test.YtgifbdpjlibbdaaGreatDoorA7
import Derived.Test.YtgifbdpjlibbdaaGreatDoorProg
import Derived.KernelRfl
set_option linter.all false
namespace Go.Lift.T1
open Go Go.Lift Go.Proofs
set_option maxRecDepth 100000
theorem c14 : Comp Tryz.prog Tryz.f14 i14 := z0b (by kernel_rfl)
theorem c15 : Comp Tryz.prog Tryz.f15 i15 := z0b (by kernel_rfl)
theorem c17 : Comp Tryz.prog Tryz.f17 i17 := z0b (by kernel_rfl)
theorem c26 : Comp Tryz.prog Tryz.f26 i26 := z0b (by kernel_rfl)
theorem c29 : Comp Tryz.prog Tryz.f29 i29 := z0b (by kernel_rfl)
theorem c32 : Comp Tryz.prog Tryz.f32 i32 := z0b (by kernel_rfl)
theorem c38 : Comp Tryz.prog Tryz.f38 i38 := z0b (by kernel_rfl)
theorem c46 : Comp Tryz.prog Tryz.f46 i46 := z0b (by kernel_rfl)
theorem c47 : Comp Tryz.prog Tryz.f47 i47 := z0b (by kernel_rfl)
theorem c52 : Comp Tryz.prog Tryz.f52 i52 := z0b (by kernel_rfl)
theorem c58 : Comp Tryz.prog Tryz.f58 i58 := z0b (by kernel_rfl)
theorem c59 : Comp Tryz.prog Tryz.f59 i59 := z0b (by kernel_rfl)
theorem c64 : Comp Tryz.prog Tryz.f64 i64 := z0b (by kernel_rfl)
theorem c68 : Comp Tryz.prog Tryz.f68 i68 := z0b (by kernel_rfl)
theorem c72 : Comp Tryz.prog Tryz.f72 i72 := z0b (by kernel_rfl)
theorem c76 : Comp Tryz.prog Tryz.f76 i76 := z0b (by kernel_rfl)
theorem c83 : Comp Tryz.prog Tryz.f83 i83 := z0b (by kernel_rfl)
theorem c86 : Comp Tryz.prog Tryz.f86 i86 := z0b (by kernel_rfl)
theorem c90 : Comp Tryz.prog Tryz.f90 i90 := z0b (by kernel_rfl)
theorem c91 : Comp Tryz.prog Tryz.f91 i91 := z0b (by kernel_rfl)
theorem c92 : Comp Tryz.prog Tryz.f92 i92 := z0b (by kernel_rfl)
theorem c101 : Comp Tryz.prog Tryz.f101 i101 := z0b (by kernel_rfl)
theorem c102 : Comp Tryz.prog Tryz.f102 i102 := z0b (by kernel_rfl)
theorem c108 : Comp Tryz.prog Tryz.f108 i108 := z0b (by kernel_rfl)
theorem c111 : Comp Tryz.prog Tryz.f111 i111 := z0b (by kernel_rfl)
theorem c117 : Comp Tryz.prog Tryz.f117 i117 := z0b (by kernel_rfl)
theorem c119 : Comp Tryz.prog Tryz.f119 i119 := z0b (by kernel_rfl)
theorem c127 : Comp Tryz.prog Tryz.f127 i127 := z0b (by kernel_rfl)
theorem c128 : Comp Tryz.prog Tryz.f128 i128 := z0b (by kernel_rfl)
theorem c132 : Comp Tryz.prog Tryz.f132 i132 := z0b (by kernel_rfl)
theorem c135 : Comp Tryz.prog Tryz.f135 i135 := z0b (by kernel_rfl)
theorem c136 : Comp Tryz.prog Tryz.f136 i136 := z0b (by kernel_rfl)
theorem c154 : Comp Tryz.prog Tryz.f154 i154 := z0b (by kernel_rfl)
theorem c160 : Comp Tryz.prog Tryz.f160 i160 := z0b (by kernel_rfl)
theorem c169 : Comp Tryz.prog Tryz.f169 i169 := z0b (by kernel_rfl)
theorem c170 : Comp Tryz.prog Tryz.f170 i170 := z0b (by kernel_rfl)
theorem c173 : Comp Tryz.prog Tryz.f173 i173 := z0b (by kernel_rfl)
theorem c174 : Comp Tryz.prog Tryz.f174 i174 := z0b (by kernel_rfl)
theorem c176 : Comp Tryz.prog Tryz.f176 i176 := z0b (by kernel_rfl)
theorem c179 : Comp Tryz.prog Tryz.f179 i179 := z0b (by kernel_rfl)
theorem c180 : Comp Tryz.prog Tryz.f180 i180 := z0b (by kernel_rfl)
theorem c191 : Comp Tryz.prog Tryz.f191 i191 := z0b (by kernel_rfl)
theorem c196 : Comp Tryz.prog Tryz.f196 i196 := z0b (by kernel_rfl)
theorem c198 : Comp Tryz.prog Tryz.f198 i198 := z0b (by kernel_rfl)
end Go.Lift.T1
