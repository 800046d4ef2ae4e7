/- Part D0 of the proof. -/
import Derived.Test.YtgifbdpjlibbdaaGreatDoorB1
import Derived.Test.YtgifbdpjlibbdaaGreatDoorA7
import Derived.Test.YtgifbdpjlibbdaaGreatDoorProg
import Derived.KernelRfl
set_option linter.all false
namespace Go.Lift.T1
open Go Go.Lift Go.Proofs
set_option maxRecDepth 100000
theorem c6 : Comp Tryz.prog Tryz.f6 i6 := z0b (by kernel_rfl)
theorem c8 : Comp Tryz.prog Tryz.f8 i8 := z0b (by kernel_rfl)
theorem c10 : Comp Tryz.prog Tryz.f10 i10 := z0b (by kernel_rfl)
theorem c16 : Comp Tryz.prog Tryz.f16 i16 := z0b (by kernel_rfl)
theorem c24 : Comp Tryz.prog Tryz.f24 i24 := z0b (by kernel_rfl)
theorem c25 : Comp Tryz.prog Tryz.f25 i25 := z0b (by kernel_rfl)
theorem c27 : Comp Tryz.prog Tryz.f27 i27 := z0b (by kernel_rfl)
theorem c31 : Comp Tryz.prog Tryz.f31 i31 := z0b (by kernel_rfl)
theorem c34 : Comp Tryz.prog Tryz.f34 i34 := z0b (by kernel_rfl)
theorem c36 : Comp Tryz.prog Tryz.f36 i36 := z0b (by kernel_rfl)
theorem c39 : Comp Tryz.prog Tryz.f39 i39 := z0b (by kernel_rfl)
theorem c42 : Comp Tryz.prog Tryz.f42 i42 := z0b (by kernel_rfl)
theorem c53 : Comp Tryz.prog Tryz.f53 i53 := z0b (by kernel_rfl)
theorem c56 : Comp Tryz.prog Tryz.f56 i56 := z0b (by kernel_rfl)
theorem c60 : Comp Tryz.prog Tryz.f60 i60 := z0b (by kernel_rfl)
theorem c65 : Comp Tryz.prog Tryz.f65 i65 := z0b (by kernel_rfl)
theorem c67 : Comp Tryz.prog Tryz.f67 i67 := z0b (by kernel_rfl)
theorem c70 : Comp Tryz.prog Tryz.f70 i70 := z0b (by kernel_rfl)
theorem c84 : Comp Tryz.prog Tryz.f84 i84 := z0b (by kernel_rfl)
theorem c85 : Comp Tryz.prog Tryz.f85 i85 := z0b (by kernel_rfl)
theorem c87 : Comp Tryz.prog Tryz.f87 i87 := z0b (by kernel_rfl)
theorem c93 : Comp Tryz.prog Tryz.f93 i93 := z0b (by kernel_rfl)
theorem c94 : Comp Tryz.prog Tryz.f94 i94 := z0b (by kernel_rfl)
theorem c97 : Comp Tryz.prog Tryz.f97 i97 := z0b (by kernel_rfl)
theorem c99 : Comp Tryz.prog Tryz.f99 i99 := z0b (by kernel_rfl)
theorem c103 : Comp Tryz.prog Tryz.f103 i103 := z0b (by kernel_rfl)
theorem c105 : Comp Tryz.prog Tryz.f105 i105 := z0b (by kernel_rfl)
theorem c112 : Comp Tryz.prog Tryz.f112 i112 := z0b (by kernel_rfl)
theorem c123 : Comp Tryz.prog Tryz.f123 i123 := z0b (by kernel_rfl)
theorem c124 : Comp Tryz.prog Tryz.f124 i124 := z0b (by kernel_rfl)
theorem c129 : Comp Tryz.prog Tryz.f129 i129 := z0b (by kernel_rfl)
theorem c144 : Comp Tryz.prog Tryz.f144 i144 := z0b (by kernel_rfl)
theorem c146 : Comp Tryz.prog Tryz.f146 i146 := z0b (by kernel_rfl)
theorem c147 : Comp Tryz.prog Tryz.f147 i147 := z0b (by kernel_rfl)
theorem c151 : Comp Tryz.prog Tryz.f151 i151 := z0b (by kernel_rfl)
theorem c155 : Comp Tryz.prog Tryz.f155 i155 := z0b (by kernel_rfl)
theorem c159 : Comp Tryz.prog Tryz.f159 i159 := z0b (by kernel_rfl)
theorem c162 : Comp Tryz.prog Tryz.f162 i162 := z0b (by kernel_rfl)
theorem c163 : Comp Tryz.prog Tryz.f163 i163 := z0b (by kernel_rfl)
theorem c165 : Comp Tryz.prog Tryz.f165 i165 := z0b (by kernel_rfl)
theorem c172 : Comp Tryz.prog Tryz.f172 i172 := z0b (by kernel_rfl)
theorem c175 : Comp Tryz.prog Tryz.f175 i175 := z0b (by kernel_rfl)
theorem c177 : Comp Tryz.prog Tryz.f177 i177 := z0b (by kernel_rfl)
theorem c189 : Comp Tryz.prog Tryz.f189 i189 := z0b (by kernel_rfl)
end Go.Lift.T1
