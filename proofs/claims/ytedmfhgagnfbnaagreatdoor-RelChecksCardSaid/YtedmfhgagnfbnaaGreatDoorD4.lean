/- Part D4 of the proof. -/
import Derived.Test.YtedmfhgagnfbnaaGreatDoorB1
import Derived.Test.YtedmfhgagnfbnaaGreatDoorA7
import Derived.Test.YtedmfhgagnfbnaaGreatDoorProg
import Derived.KernelRfl
set_option linter.all false
namespace Go.Lift.T1
open Go Go.Lift Go.Proofs
set_option maxRecDepth 100000
theorem z3_2 : cCode true Tryz.prog (pA (Tryz.f3.body.getD .skip)) = (qA i3.body) := by kernel_rfl
theorem z3_5 : cCode true Tryz.prog (pA (pA (pB (Tryz.f3.body.getD .skip)))) = (qA (qA (qB i3.body))) := by kernel_rfl
theorem z3_6 : cCode true Tryz.prog (pB (pA (pB (Tryz.f3.body.getD .skip)))) = (qB (qA (qB i3.body))) := by kernel_rfl
theorem z3_4 : cCode true Tryz.prog (pA (pB (Tryz.f3.body.getD .skip))) = (qA (qB i3.body)) := cut_seq (by kernel_rfl) (by kernel_rfl) z3_5 z3_6
theorem z3_8 : cCode true Tryz.prog (pA (pB (pB (Tryz.f3.body.getD .skip)))) = (qA (qB (qB i3.body))) := by kernel_rfl
theorem z3_10 : cCode true Tryz.prog (pA (pB (pB (pB (Tryz.f3.body.getD .skip))))) = (qA (qB (qB (qB i3.body)))) := by kernel_rfl
theorem z3_12 : cCode true Tryz.prog (pA (pB (pB (pB (pB (Tryz.f3.body.getD .skip)))))) = (qA (qB (qB (qB (qB i3.body))))) := by kernel_rfl
theorem z3_14 : cCode true Tryz.prog (pA (pB (pB (pB (pB (pB (Tryz.f3.body.getD .skip))))))) = (qA (qB (qB (qB (qB (qB i3.body)))))) := by kernel_rfl
theorem z3_16 : cCode true Tryz.prog (pA (pB (pB (pB (pB (pB (pB (Tryz.f3.body.getD .skip)))))))) = (qA (qB (qB (qB (qB (qB (qB i3.body))))))) := by kernel_rfl
theorem z3_18 : cCode true Tryz.prog (pA (pB (pB (pB (pB (pB (pB (pB (Tryz.f3.body.getD .skip))))))))) = (qA (qB (qB (qB (qB (qB (qB (qB i3.body)))))))) := by kernel_rfl
theorem z3_20 : cCode true Tryz.prog (pA (pB (pB (pB (pB (pB (pB (pB (pB (Tryz.f3.body.getD .skip)))))))))) = (qA (qB (qB (qB (qB (qB (qB (qB (qB i3.body))))))))) := by kernel_rfl
theorem z3_22 : cCode true Tryz.prog (pA (pB (pB (pB (pB (pB (pB (pB (pB (pB (Tryz.f3.body.getD .skip))))))))))) = (qA (qB (qB (qB (qB (qB (qB (qB (qB (qB i3.body)))))))))) := by kernel_rfl
theorem z3_24 : cCode true Tryz.prog (pA (pB (pB (pB (pB (pB (pB (pB (pB (pB (pB (Tryz.f3.body.getD .skip)))))))))))) = (qA (qB (qB (qB (qB (qB (qB (qB (qB (qB (qB i3.body))))))))))) := by kernel_rfl
theorem z3_27 : cCode true Tryz.prog (pA (pA (pB (pB (pB (pB (pB (pB (pB (pB (pB (pB (pB (Tryz.f3.body.getD .skip)))))))))))))) = (qA (qA (qB (qB (qB (qB (qB (qB (qB (qB (qB (qB (qB i3.body))))))))))))) := by kernel_rfl
theorem z3_28 : cCode true Tryz.prog (pB (pA (pB (pB (pB (pB (pB (pB (pB (pB (pB (pB (pB (Tryz.f3.body.getD .skip)))))))))))))) = (qB (qA (qB (qB (qB (qB (qB (qB (qB (qB (qB (qB (qB i3.body))))))))))))) := by kernel_rfl
theorem z3_26 : cCode true Tryz.prog (pA (pB (pB (pB (pB (pB (pB (pB (pB (pB (pB (pB (Tryz.f3.body.getD .skip))))))))))))) = (qA (qB (qB (qB (qB (qB (qB (qB (qB (qB (qB (qB i3.body)))))))))))) := cut_seq (by kernel_rfl) (by kernel_rfl) z3_27 z3_28
theorem z3_31 : cCode true Tryz.prog (pA (pA (pB (pB (pB (pB (pB (pB (pB (pB (pB (pB (pB (pB (Tryz.f3.body.getD .skip))))))))))))))) = (qA (qA (qB (qB (qB (qB (qB (qB (qB (qB (qB (qB (qB (qB i3.body)))))))))))))) := by kernel_rfl
theorem z3_32 : cCode true Tryz.prog (pB (pA (pB (pB (pB (pB (pB (pB (pB (pB (pB (pB (pB (pB (Tryz.f3.body.getD .skip))))))))))))))) = (qB (qA (qB (qB (qB (qB (qB (qB (qB (qB (qB (qB (qB (qB i3.body)))))))))))))) := by kernel_rfl
theorem z3_30 : cCode true Tryz.prog (pA (pB (pB (pB (pB (pB (pB (pB (pB (pB (pB (pB (pB (Tryz.f3.body.getD .skip)))))))))))))) = (qA (qB (qB (qB (qB (qB (qB (qB (qB (qB (qB (qB (qB i3.body))))))))))))) := cut_seq (by kernel_rfl) (by kernel_rfl) z3_31 z3_32
theorem z3_34 : cCode true Tryz.prog (pA (pB (pB (pB (pB (pB (pB (pB (pB (pB (pB (pB (pB (pB (Tryz.f3.body.getD .skip))))))))))))))) = (qA (qB (qB (qB (qB (qB (qB (qB (qB (qB (qB (qB (qB (qB i3.body)))))))))))))) := by kernel_rfl
theorem z3_35 : cCode true Tryz.prog (pB (pB (pB (pB (pB (pB (pB (pB (pB (pB (pB (pB (pB (pB (Tryz.f3.body.getD .skip))))))))))))))) = (qB (qB (qB (qB (qB (qB (qB (qB (qB (qB (qB (qB (qB (qB i3.body)))))))))))))) := by kernel_rfl
theorem z3_33 : cCode true Tryz.prog (pB (pB (pB (pB (pB (pB (pB (pB (pB (pB (pB (pB (pB (Tryz.f3.body.getD .skip)))))))))))))) = (qB (qB (qB (qB (qB (qB (qB (qB (qB (qB (qB (qB (qB i3.body))))))))))))) := cut_seq (by kernel_rfl) (by kernel_rfl) z3_34 z3_35
theorem z3_29 : cCode true Tryz.prog (pB (pB (pB (pB (pB (pB (pB (pB (pB (pB (pB (pB (Tryz.f3.body.getD .skip))))))))))))) = (qB (qB (qB (qB (qB (qB (qB (qB (qB (qB (qB (qB i3.body)))))))))))) := cut_seq (by kernel_rfl) (by kernel_rfl) z3_30 z3_33
theorem z3_25 : cCode true Tryz.prog (pB (pB (pB (pB (pB (pB (pB (pB (pB (pB (pB (Tryz.f3.body.getD .skip)))))))))))) = (qB (qB (qB (qB (qB (qB (qB (qB (qB (qB (qB i3.body))))))))))) := cut_seq (by kernel_rfl) (by kernel_rfl) z3_26 z3_29
theorem z3_23 : cCode true Tryz.prog (pB (pB (pB (pB (pB (pB (pB (pB (pB (pB (Tryz.f3.body.getD .skip))))))))))) = (qB (qB (qB (qB (qB (qB (qB (qB (qB (qB i3.body)))))))))) := cut_seq (by kernel_rfl) (by kernel_rfl) z3_24 z3_25
theorem z3_21 : cCode true Tryz.prog (pB (pB (pB (pB (pB (pB (pB (pB (pB (Tryz.f3.body.getD .skip)))))))))) = (qB (qB (qB (qB (qB (qB (qB (qB (qB i3.body))))))))) := cut_seq (by kernel_rfl) (by kernel_rfl) z3_22 z3_23
theorem z3_19 : cCode true Tryz.prog (pB (pB (pB (pB (pB (pB (pB (pB (Tryz.f3.body.getD .skip))))))))) = (qB (qB (qB (qB (qB (qB (qB (qB i3.body)))))))) := cut_seq (by kernel_rfl) (by kernel_rfl) z3_20 z3_21
theorem z3_17 : cCode true Tryz.prog (pB (pB (pB (pB (pB (pB (pB (Tryz.f3.body.getD .skip)))))))) = (qB (qB (qB (qB (qB (qB (qB i3.body))))))) := cut_seq (by kernel_rfl) (by kernel_rfl) z3_18 z3_19
theorem z3_15 : cCode true Tryz.prog (pB (pB (pB (pB (pB (pB (Tryz.f3.body.getD .skip))))))) = (qB (qB (qB (qB (qB (qB i3.body)))))) := cut_seq (by kernel_rfl) (by kernel_rfl) z3_16 z3_17
theorem z3_13 : cCode true Tryz.prog (pB (pB (pB (pB (pB (Tryz.f3.body.getD .skip)))))) = (qB (qB (qB (qB (qB i3.body))))) := cut_seq (by kernel_rfl) (by kernel_rfl) z3_14 z3_15
theorem z3_11 : cCode true Tryz.prog (pB (pB (pB (pB (Tryz.f3.body.getD .skip))))) = (qB (qB (qB (qB i3.body)))) := cut_seq (by kernel_rfl) (by kernel_rfl) z3_12 z3_13
theorem z3_9 : cCode true Tryz.prog (pB (pB (pB (Tryz.f3.body.getD .skip)))) = (qB (qB (qB i3.body))) := cut_seq (by kernel_rfl) (by kernel_rfl) z3_10 z3_11
theorem z3_7 : cCode true Tryz.prog (pB (pB (Tryz.f3.body.getD .skip))) = (qB (qB i3.body)) := cut_seq (by kernel_rfl) (by kernel_rfl) z3_8 z3_9
theorem z3_3 : cCode true Tryz.prog (pB (Tryz.f3.body.getD .skip)) = (qB i3.body) := cut_seq (by kernel_rfl) (by kernel_rfl) z3_4 z3_7
theorem z3_1 : cCode true Tryz.prog (Tryz.f3.body.getD .skip) = i3.body := cut_seq (by kernel_rfl) (by kernel_rfl) z3_2 z3_3
theorem c3 : Comp Tryz.prog Tryz.f3 i3 := cut_body (by kernel_rfl) (by kernel_rfl) (by kernel_rfl) z3_1
end Go.Lift.T1
