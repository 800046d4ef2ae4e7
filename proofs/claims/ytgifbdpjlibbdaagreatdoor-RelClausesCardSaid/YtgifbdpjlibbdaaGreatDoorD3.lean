/- Part D3 of the proof. -/
import Derived.Test.YtgifbdpjlibbdaaGreatDoorB1
import Derived.Test.YtgifbdpjlibbdaaGreatDoorA7
import Derived.Test.YtgifbdpjlibbdaaGreatDoorProg
import Derived.KernelRfl
set_option linter.all false
namespace Go.Lift.T1
open Go Go.Lift Go.Proofs
set_option maxRecDepth 100000
theorem c3 : Comp Tryz.prog Tryz.f3 i3 := z0b (by kernel_rfl)
theorem c4 : Comp Tryz.prog Tryz.f4 i4 := z0b (by kernel_rfl)
theorem c19 : Comp Tryz.prog Tryz.f19 i19 := z0b (by kernel_rfl)
theorem c20 : Comp Tryz.prog Tryz.f20 i20 := z0b (by kernel_rfl)
theorem c21 : Comp Tryz.prog Tryz.f21 i21 := z0b (by kernel_rfl)
theorem c23 : Comp Tryz.prog Tryz.f23 i23 := z0b (by kernel_rfl)
theorem c28 : Comp Tryz.prog Tryz.f28 i28 := z0b (by kernel_rfl)
theorem c35 : Comp Tryz.prog Tryz.f35 i35 := z0b (by kernel_rfl)
theorem c37 : Comp Tryz.prog Tryz.f37 i37 := z0b (by kernel_rfl)
theorem c45 : Comp Tryz.prog Tryz.f45 i45 := z0b (by kernel_rfl)
theorem c48 : Comp Tryz.prog Tryz.f48 i48 := z0b (by kernel_rfl)
theorem c50 : Comp Tryz.prog Tryz.f50 i50 := z0b (by kernel_rfl)
theorem c51 : Comp Tryz.prog Tryz.f51 i51 := z0b (by kernel_rfl)
theorem c55 : Comp Tryz.prog Tryz.f55 i55 := z0b (by kernel_rfl)
theorem c57 : Comp Tryz.prog Tryz.f57 i57 := z0b (by kernel_rfl)
theorem c62 : Comp Tryz.prog Tryz.f62 i62 := z0b (by kernel_rfl)
theorem c63 : Comp Tryz.prog Tryz.f63 i63 := z0b (by kernel_rfl)
theorem c71 : Comp Tryz.prog Tryz.f71 i71 := z0b (by kernel_rfl)
theorem c75 : Comp Tryz.prog Tryz.f75 i75 := z0b (by kernel_rfl)
theorem c82 : Comp Tryz.prog Tryz.f82 i82 := z0b (by kernel_rfl)
theorem c89 : Comp Tryz.prog Tryz.f89 i89 := z0b (by kernel_rfl)
theorem c96 : Comp Tryz.prog Tryz.f96 i96 := z0b (by kernel_rfl)
theorem c98 : Comp Tryz.prog Tryz.f98 i98 := z0b (by kernel_rfl)
theorem c106 : Comp Tryz.prog Tryz.f106 i106 := z0b (by kernel_rfl)
theorem c113 : Comp Tryz.prog Tryz.f113 i113 := z0b (by kernel_rfl)
theorem c114 : Comp Tryz.prog Tryz.f114 i114 := z0b (by kernel_rfl)
theorem c115 : Comp Tryz.prog Tryz.f115 i115 := z0b (by kernel_rfl)
theorem c116 : Comp Tryz.prog Tryz.f116 i116 := z0b (by kernel_rfl)
theorem c118 : Comp Tryz.prog Tryz.f118 i118 := z0b (by kernel_rfl)
theorem c122 : Comp Tryz.prog Tryz.f122 i122 := z0b (by kernel_rfl)
theorem c125 : Comp Tryz.prog Tryz.f125 i125 := z0b (by kernel_rfl)
theorem c134 : Comp Tryz.prog Tryz.f134 i134 := z0b (by kernel_rfl)
theorem c140 : Comp Tryz.prog Tryz.f140 i140 := z0b (by kernel_rfl)
theorem c141 : Comp Tryz.prog Tryz.f141 i141 := z0b (by kernel_rfl)
theorem c149 : Comp Tryz.prog Tryz.f149 i149 := z0b (by kernel_rfl)
theorem c150 : Comp Tryz.prog Tryz.f150 i150 := z0b (by kernel_rfl)
theorem c152 : Comp Tryz.prog Tryz.f152 i152 := z0b (by kernel_rfl)
theorem c156 : Comp Tryz.prog Tryz.f156 i156 := z0b (by kernel_rfl)
theorem c161 : Comp Tryz.prog Tryz.f161 i161 := z0b (by kernel_rfl)
theorem c164 : Comp Tryz.prog Tryz.f164 i164 := z0b (by kernel_rfl)
theorem c178 : Comp Tryz.prog Tryz.f178 i178 := z0b (by kernel_rfl)
theorem c183 : Comp Tryz.prog Tryz.f183 i183 := z0b (by kernel_rfl)
theorem c188 : Comp Tryz.prog Tryz.f188 i188 := z0b (by kernel_rfl)
theorem c190 : Comp Tryz.prog Tryz.f190 i190 := z0b (by kernel_rfl)
end Go.Lift.T1
