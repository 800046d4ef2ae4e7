/- Part C1 of the proof. -/
import Derived.Test.YtgifbdpjlibbdaaGreatDoorB2
import Derived.Test.YtgifbdpjlibbdaaGreatDoorA7
import Derived.KernelRfl
set_option linter.all false
namespace Go.Lift.K
open Go Go.Lift T1
set_option maxRecDepth 100000
def e1 : Ent := (110, [.str [101], .str [97, 98, 99, 100, 101, 102, 103, 104, 105, 106, 107, 108, 109, 110, 111, 112, 113, 114, 115, 116, 117, 118, 119, 120, 121, 122]], [.str []])
theorem m1 : Good G e1 := z0a (T := []) all_nil (m := 1000) (n := 100) g110 rfl rfl (by kernel_rfl)
def e2 : Ent := (110, [.str [102, 105, 110], .str [97, 98, 99, 100, 101, 102, 103, 104, 105, 106, 107, 108, 109, 110, 111, 112, 113, 114, 115, 116, 117, 118, 119, 120, 121, 122]], [.str []])
theorem m2 : Good G e2 := z0a (T := []) all_nil (m := 1000) (n := 100) g110 rfl rfl (by kernel_rfl)
def e3 : Ent := (110, [.str [102], .str [97, 98, 99, 100, 101, 102, 103, 104, 105, 106, 107, 108, 109, 110, 111, 112, 113, 114, 115, 116, 117, 118, 119, 120, 121, 122]], [.str []])
theorem m3 : Good G e3 := z0a (T := []) all_nil (m := 1000) (n := 100) g110 rfl rfl (by kernel_rfl)
def e4 : Ent := (110, [.str [104], .str [97, 98, 99, 100, 101, 102, 103, 104, 105, 106, 107, 108, 109, 110, 111, 112, 113, 114, 115, 116, 117, 118, 119, 120, 121, 122]], [.str []])
theorem m4 : Good G e4 := z0a (T := []) all_nil (m := 1000) (n := 100) g110 rfl rfl (by kernel_rfl)
def e5 : Ent := (110, [.str [110, 105, 108], .str [97, 98, 99, 100, 101, 102, 103, 104, 105, 106, 107, 108, 109, 110, 111, 112, 113, 114, 115, 116, 117, 118, 119, 120, 121, 122]], [.str []])
theorem m5 : Good G e5 := z0a (T := []) all_nil (m := 1000) (n := 100) g110 rfl rfl (by kernel_rfl)
def e6 : Ent := (110, [.str [115, 97, 109, 101], .str [97, 98, 99, 100, 101, 102, 103, 104, 105, 106, 107, 108, 109, 110, 111, 112, 113, 114, 115, 116, 117, 118, 119, 120, 121, 122]], [.str []])
theorem m6 : Good G e6 := z0a (T := []) all_nil (m := 1000) (n := 100) g110 rfl rfl (by kernel_rfl)
def e7 : Ent := (110, [.str [116], .str [97, 98, 99, 100, 101, 102, 103, 104, 105, 106, 107, 108, 109, 110, 111, 112, 113, 114, 115, 116, 117, 118, 119, 120, 121, 122]], [.str []])
theorem m7 : Good G e7 := z0a (T := []) all_nil (m := 1000) (n := 100) g110 rfl rfl (by kernel_rfl)
def e8 : Ent := (110, [.str [97], .str [97, 98, 99, 100, 101, 102, 103, 104, 105, 106, 107, 108, 109, 110, 111, 112, 113, 114, 115, 116, 117, 118, 119, 120, 121, 122]], [.str []])
theorem m8 : Good G e8 := z0a (T := []) all_nil (m := 1000) (n := 100) g110 rfl rfl (by kernel_rfl)
def e9 : Ent := (110, [.str [98], .str [97, 98, 99, 100, 101, 102, 103, 104, 105, 106, 107, 108, 109, 110, 111, 112, 113, 114, 115, 116, 117, 118, 119, 120, 121, 122]], [.str []])
theorem m9 : Good G e9 := z0a (T := []) all_nil (m := 1000) (n := 100) g110 rfl rfl (by kernel_rfl)
def e10 : Ent := (110, [.str [99, 111, 110, 115], .str [97, 98, 99, 100, 101, 102, 103, 104, 105, 106, 107, 108, 109, 110, 111, 112, 113, 114, 115, 116, 117, 118, 119, 120, 121, 122]], [.str []])
theorem m10 : Good G e10 := z0a (T := []) all_nil (m := 1000) (n := 100) g110 rfl rfl (by kernel_rfl)
def e11 : Ent := (183, [.int .i64 (0)], [.str [48]])
theorem m11 : Good G e11 := z0a (T := []) all_nil (m := 1000) (n := 100) g183 rfl rfl (by kernel_rfl)
def e12 : Ent := (183, [.int .i64 (1)], [.str [49]])
theorem m12 : Good G e12 := z0a (T := []) all_nil (m := 1000) (n := 100) g183 rfl rfl (by kernel_rfl)
def tA : List Ent := e1 :: e2 :: e3 :: e4 :: e5 :: e6 :: e7 :: e8 :: e9 :: e10 :: e11 :: e12 :: []
theorem allA : ∀ e ∈ tA, Good G e := all_cons m1 (all_cons m2 (all_cons m3 (all_cons m4 (all_cons m5 (all_cons m6 (all_cons m7 (all_cons m8 (all_cons m9 (all_cons m10 (all_cons m11 (all_cons m12 (all_nil))))))))))))
end Go.Lift.K
namespace Go.Lift.K
open Go Go.Lift T1
set_option maxRecDepth 100000
def e13 : Ent := (163, [.agg [.sl [.agg [.str [97], .sl []]], .int .i64 (0)]], [.str [97, 59]])
theorem m13 : Good G e13 := z0a (T := tA) allA (m := 1000) (n := 100) g163 rfl rfl (by kernel_rfl)
def e14 : Ent := (163, [.agg [.sl [.agg [.str [99, 111, 110, 115], .sl [.int .i64 (1), .int .i64 (0)]], .agg [.str [97], .sl []]], .int .i64 (0)]], [.str [99, 111, 110, 115, 44, 49, 44, 48, 59, 97, 59]])
theorem m14 : Good G e14 := z0a (T := tA) allA (m := 1000) (n := 100) g163 rfl rfl (by kernel_rfl)
def e15 : Ent := (78, [.str [101]], [.bool true])
theorem m15 : Good G e15 := z0a (T := tA) allA (m := 1000) (n := 100) g78 rfl rfl (by kernel_rfl)
def e16 : Ent := (78, [.str [102, 105, 110]], [.bool true])
theorem m16 : Good G e16 := z0a (T := tA) allA (m := 1000) (n := 100) g78 rfl rfl (by kernel_rfl)
def e17 : Ent := (78, [.str [102]], [.bool true])
theorem m17 : Good G e17 := z0a (T := tA) allA (m := 1000) (n := 100) g78 rfl rfl (by kernel_rfl)
def e18 : Ent := (78, [.str [104]], [.bool true])
theorem m18 : Good G e18 := z0a (T := tA) allA (m := 1000) (n := 100) g78 rfl rfl (by kernel_rfl)
def e19 : Ent := (78, [.str [110, 105, 108]], [.bool true])
theorem m19 : Good G e19 := z0a (T := tA) allA (m := 1000) (n := 100) g78 rfl rfl (by kernel_rfl)
def e20 : Ent := (78, [.str [115, 97, 109, 101]], [.bool true])
theorem m20 : Good G e20 := z0a (T := tA) allA (m := 1000) (n := 100) g78 rfl rfl (by kernel_rfl)
def e21 : Ent := (78, [.str [116]], [.bool true])
theorem m21 : Good G e21 := z0a (T := tA) allA (m := 1000) (n := 100) g78 rfl rfl (by kernel_rfl)
def e22 : Ent := (78, [.str [97]], [.bool true])
theorem m22 : Good G e22 := z0a (T := tA) allA (m := 1000) (n := 100) g78 rfl rfl (by kernel_rfl)
def e23 : Ent := (78, [.str [98]], [.bool true])
theorem m23 : Good G e23 := z0a (T := tA) allA (m := 1000) (n := 100) g78 rfl rfl (by kernel_rfl)
def e24 : Ent := (78, [.str [99, 111, 110, 115]], [.bool true])
theorem m24 : Good G e24 := z0a (T := tA) allA (m := 1000) (n := 100) g78 rfl rfl (by kernel_rfl)
def e25 : Ent := (152, [.str [97]], [.bool true])
theorem m25 : Good G e25 := z0a (T := tA) allA (m := 1000) (n := 100) g152 rfl rfl (by kernel_rfl)
def e26 : Ent := (152, [.str [99, 111, 110, 115]], [.bool true])
theorem m26 : Good G e26 := z0a (T := tA) allA (m := 1000) (n := 100) g152 rfl rfl (by kernel_rfl)
def tB : List Ent := e13 :: e14 :: e15 :: e16 :: e17 :: e18 :: e19 :: e20 :: e21 :: e22 :: e23 :: e24 :: e25 :: e26 :: tA
theorem allB : ∀ e ∈ tB, Good G e := all_cons m13 (all_cons m14 (all_cons m15 (all_cons m16 (all_cons m17 (all_cons m18 (all_cons m19 (all_cons m20 (all_cons m21 (all_cons m22 (all_cons m23 (all_cons m24 (all_cons m25 (all_cons m26 (allA))))))))))))))
end Go.Lift.K
namespace Go.Lift.K
open Go Go.Lift T1
set_option maxRecDepth 100000
def e27 : Ent := (124, [.agg [.sl [.agg [.str [97], .sl []]], .int .i64 (0)]], [.int .i64 (0)])
theorem m27 : Good G e27 := z0a (T := tB) allB (m := 1000) (n := 100) g124 rfl rfl (by kernel_rfl)
def e28 : Ent := (124, [.agg [.sl [.agg [.str [99, 111, 110, 115], .sl [.int .i64 (1), .int .i64 (0)]], .agg [.str [97], .sl []]], .int .i64 (0)]], [.int .i64 (0)])
theorem m28 : Good G e28 := z0a (T := tB) allB (m := 1000) (n := 100) g124 rfl rfl (by kernel_rfl)
def e29 : Ent := (124, [.agg [.sl [.agg [.str [99, 111, 110, 115], .sl [.int .i64 (1), .int .i64 (0)]], .agg [.str [97], .sl []]], .int .i64 (1)]], [.int .i64 (0)])
theorem m29 : Good G e29 := z0a (T := tB) allB (m := 1000) (n := 100) g124 rfl rfl (by kernel_rfl)
def e30 : Ent := (124, [.agg [.sl [.agg [.str [99, 111, 110, 115], .sl [.int .i64 (1), .int .i64 (2)]], .agg [.str [97], .sl []], .agg [.str [99, 111, 110, 115], .sl [.int .i64 (1), .int .i64 (0)]]], .int .i64 (0)]], [.int .i64 (0)])
theorem m30 : Good G e30 := z0a (T := tB) allB (m := 1000) (n := 100) g124 rfl rfl (by kernel_rfl)
def tC : List Ent := e27 :: e28 :: e29 :: e30 :: tB
theorem allC : ∀ e ∈ tC, Good G e := all_cons m27 (all_cons m28 (all_cons m29 (all_cons m30 (allB))))
end Go.Lift.K
namespace Go.Lift.K
open Go Go.Lift T1
set_option maxRecDepth 100000
def e31 : Ent := (99, [.agg [.sl [.agg [.str [97], .sl []]], .int .i64 (0)]], [.agg [.sl [.agg [.str [97], .sl []]], .int .i64 (0)], .int .i64 (0)])
theorem m31 : Good G e31 := z0a (T := tC) allC (m := 1000) (n := 100) g99 rfl rfl (by kernel_rfl)
def e32 : Ent := (99, [.agg [.sl [.agg [.str [99, 111, 110, 115], .sl [.int .i64 (1), .int .i64 (0)]], .agg [.str [97], .sl []]], .int .i64 (0)]], [.agg [.sl [.agg [.str [99, 111, 110, 115], .sl [.int .i64 (1), .int .i64 (0)]], .agg [.str [97], .sl []]], .int .i64 (0)], .int .i64 (0)])
theorem m32 : Good G e32 := z0a (T := tC) allC (m := 1000) (n := 100) g99 rfl rfl (by kernel_rfl)
def e33 : Ent := (99, [.agg [.sl [.agg [.str [99, 111, 110, 115], .sl [.int .i64 (1), .int .i64 (0)]], .agg [.str [97], .sl []]], .int .i64 (1)]], [.agg [.sl [.agg [.str [97], .sl []]], .int .i64 (0)], .int .i64 (0)])
theorem m33 : Good G e33 := z0a (T := tC) allC (m := 1000) (n := 100) g99 rfl rfl (by kernel_rfl)
def e34 : Ent := (99, [.agg [.sl [.agg [.str [99, 111, 110, 115], .sl [.int .i64 (1), .int .i64 (2)]], .agg [.str [97], .sl []], .agg [.str [99, 111, 110, 115], .sl [.int .i64 (1), .int .i64 (0)]]], .int .i64 (0)]], [.agg [.sl [.agg [.str [99, 111, 110, 115], .sl [.int .i64 (1), .int .i64 (0)]], .agg [.str [97], .sl []]], .int .i64 (0)], .int .i64 (0)])
theorem m34 : Good G e34 := z0a (T := tC) allC (m := 1000) (n := 100) g99 rfl rfl (by kernel_rfl)
def e35 : Ent := (123, [.agg [.sl [.agg [.str [102, 105, 110], .int .i64 (1), .int .i64 (0)]], .sl [.agg [.str [102, 105, 110], .sl [.agg [.str [110, 105, 108], .sl []]], .sl []], .agg [.str [102, 105, 110], .sl [.agg [.str [99, 111, 110, 115], .sl [.str [104], .str [116]]]], .sl [.agg [.str [102, 105, 110], .sl [.str [116]]]]]]], .str [102, 105, 110]], [.int .i64 (0)])
theorem m35 : Good G e35 := z0a (T := tC) allC (m := 1000) (n := 100) g123 rfl rfl (by kernel_rfl)
def e36 : Ent := (123, [.agg [.sl [.agg [.str [102, 105, 110], .int .i64 (1), .int .i64 (1)]], .sl [.agg [.str [102, 105, 110], .sl [.agg [.str [110, 105, 108], .sl []]], .sl []], .agg [.str [102, 105, 110], .sl [.agg [.str [99, 111, 110, 115], .sl [.str [104], .str [116]]]], .sl [.agg [.str [102, 105, 110], .sl [.str [116]]]]]]], .str [102, 105, 110]], [.int .i64 (0)])
theorem m36 : Good G e36 := z0a (T := tC) allC (m := 1000) (n := 100) g123 rfl rfl (by kernel_rfl)
def e37 : Ent := (123, [.agg [.sl [.agg [.str [115, 97, 109, 101], .int .i64 (2), .int .i64 (1)]], .sl [.agg [.str [115, 97, 109, 101], .sl [.agg [.str [99, 111, 110, 115], .sl [.str [97], .str [98]]], .agg [.str [99, 111, 110, 115], .sl [.str [101], .str [102]]]], .sl [.agg [.str [115, 97, 109, 101], .sl [.str [97], .str [101]]], .agg [.str [115, 97, 109, 101], .sl [.str [98], .str [102]]]]], .agg [.str [115, 97, 109, 101], .sl [.agg [.str [97], .sl []], .agg [.str [97], .sl []]], .sl []]]], .str [115, 97, 109, 101]], [.int .i64 (0)])
theorem m37 : Good G e37 := z0a (T := tC) allC (m := 1000) (n := 100) g123 rfl rfl (by kernel_rfl)
def e38 : Ent := (145, [.agg [.sl [.agg [.str [102, 105, 110], .int .i64 (1), .int .i64 (0)]], .sl [.agg [.str [102, 105, 110], .sl [.agg [.str [110, 105, 108], .sl []]], .sl []], .agg [.str [102, 105, 110], .sl [.agg [.str [99, 111, 110, 115], .sl [.str [104], .str [116]]]], .sl [.agg [.str [102, 105, 110], .sl [.str [116]]]]]]], .int .i64 (0)], [.int .i64 (0)])
theorem m38 : Good G e38 := z0a (T := tC) allC (m := 1000) (n := 100) g145 rfl rfl (by kernel_rfl)
def e39 : Ent := (145, [.agg [.sl [.agg [.str [102, 105, 110], .int .i64 (1), .int .i64 (1)]], .sl [.agg [.str [102, 105, 110], .sl [.agg [.str [110, 105, 108], .sl []]], .sl []], .agg [.str [102, 105, 110], .sl [.agg [.str [99, 111, 110, 115], .sl [.str [104], .str [116]]]], .sl [.agg [.str [102, 105, 110], .sl [.str [116]]]]]]], .int .i64 (0)], [.int .i64 (0)])
theorem m39 : Good G e39 := z0a (T := tC) allC (m := 1000) (n := 100) g145 rfl rfl (by kernel_rfl)
def e40 : Ent := (145, [.agg [.sl [.agg [.str [115, 97, 109, 101], .int .i64 (2), .int .i64 (1)]], .sl [.agg [.str [115, 97, 109, 101], .sl [.agg [.str [99, 111, 110, 115], .sl [.str [97], .str [98]]], .agg [.str [99, 111, 110, 115], .sl [.str [101], .str [102]]]], .sl [.agg [.str [115, 97, 109, 101], .sl [.str [97], .str [101]]], .agg [.str [115, 97, 109, 101], .sl [.str [98], .str [102]]]]], .agg [.str [115, 97, 109, 101], .sl [.agg [.str [97], .sl []], .agg [.str [97], .sl []]], .sl []]]], .int .i64 (0)], [.int .i64 (0)])
theorem m40 : Good G e40 := z0a (T := tC) allC (m := 1000) (n := 100) g145 rfl rfl (by kernel_rfl)
def e41 : Ent := (146, [.agg [.sl [.agg [.str [102, 105, 110], .int .i64 (1), .int .i64 (0)]], .sl [.agg [.str [102, 105, 110], .sl [.agg [.str [110, 105, 108], .sl []]], .sl []], .agg [.str [102, 105, 110], .sl [.agg [.str [99, 111, 110, 115], .sl [.str [104], .str [116]]]], .sl [.agg [.str [102, 105, 110], .sl [.str [116]]]]]]], .agg [.str [102, 105, 110], .sl [.agg [.str [110, 105, 108], .sl []]], .sl []]], [.int .i64 (0)])
theorem m41 : Good G e41 := z0a (T := tC) allC (m := 1000) (n := 100) g146 rfl rfl (by kernel_rfl)
def e42 : Ent := (146, [.agg [.sl [.agg [.str [102, 105, 110], .int .i64 (1), .int .i64 (0)]], .sl [.agg [.str [102, 105, 110], .sl [.agg [.str [110, 105, 108], .sl []]], .sl []], .agg [.str [102, 105, 110], .sl [.agg [.str [99, 111, 110, 115], .sl [.str [104], .str [116]]]], .sl [.agg [.str [102, 105, 110], .sl [.str [116]]]]]]], .agg [.str [102, 105, 110], .sl [.agg [.str [99, 111, 110, 115], .sl [.str [104], .str [116]]]], .sl [.agg [.str [102, 105, 110], .sl [.str [116]]]]]], [.int .i64 (0)])
theorem m42 : Good G e42 := z0a (T := tC) allC (m := 1000) (n := 100) g146 rfl rfl (by kernel_rfl)
def e43 : Ent := (146, [.agg [.sl [.agg [.str [102, 105, 110], .int .i64 (1), .int .i64 (1)]], .sl [.agg [.str [102, 105, 110], .sl [.agg [.str [110, 105, 108], .sl []]], .sl []], .agg [.str [102, 105, 110], .sl [.agg [.str [99, 111, 110, 115], .sl [.str [104], .str [116]]]], .sl [.agg [.str [102, 105, 110], .sl [.str [116]]]]]]], .agg [.str [102, 105, 110], .sl [.agg [.str [110, 105, 108], .sl []]], .sl []]], [.int .i64 (0)])
theorem m43 : Good G e43 := z0a (T := tC) allC (m := 1000) (n := 100) g146 rfl rfl (by kernel_rfl)
def e44 : Ent := (146, [.agg [.sl [.agg [.str [102, 105, 110], .int .i64 (1), .int .i64 (1)]], .sl [.agg [.str [102, 105, 110], .sl [.agg [.str [110, 105, 108], .sl []]], .sl []], .agg [.str [102, 105, 110], .sl [.agg [.str [99, 111, 110, 115], .sl [.str [104], .str [116]]]], .sl [.agg [.str [102, 105, 110], .sl [.str [116]]]]]]], .agg [.str [102, 105, 110], .sl [.agg [.str [99, 111, 110, 115], .sl [.str [104], .str [116]]]], .sl [.agg [.str [102, 105, 110], .sl [.str [116]]]]]], [.int .i64 (0)])
theorem m44 : Good G e44 := z0a (T := tC) allC (m := 1000) (n := 100) g146 rfl rfl (by kernel_rfl)
def e45 : Ent := (146, [.agg [.sl [.agg [.str [115, 97, 109, 101], .int .i64 (2), .int .i64 (1)]], .sl [.agg [.str [115, 97, 109, 101], .sl [.agg [.str [99, 111, 110, 115], .sl [.str [97], .str [98]]], .agg [.str [99, 111, 110, 115], .sl [.str [101], .str [102]]]], .sl [.agg [.str [115, 97, 109, 101], .sl [.str [97], .str [101]]], .agg [.str [115, 97, 109, 101], .sl [.str [98], .str [102]]]]], .agg [.str [115, 97, 109, 101], .sl [.agg [.str [97], .sl []], .agg [.str [97], .sl []]], .sl []]]], .agg [.str [115, 97, 109, 101], .sl [.agg [.str [97], .sl []], .agg [.str [97], .sl []]], .sl []]], [.int .i64 (0)])
theorem m45 : Good G e45 := z0a (T := tC) allC (m := 1000) (n := 100) g146 rfl rfl (by kernel_rfl)
def e46 : Ent := (146, [.agg [.sl [.agg [.str [115, 97, 109, 101], .int .i64 (2), .int .i64 (1)]], .sl [.agg [.str [115, 97, 109, 101], .sl [.agg [.str [99, 111, 110, 115], .sl [.str [97], .str [98]]], .agg [.str [99, 111, 110, 115], .sl [.str [101], .str [102]]]], .sl [.agg [.str [115, 97, 109, 101], .sl [.str [97], .str [101]]], .agg [.str [115, 97, 109, 101], .sl [.str [98], .str [102]]]]], .agg [.str [115, 97, 109, 101], .sl [.agg [.str [97], .sl []], .agg [.str [97], .sl []]], .sl []]]], .agg [.str [115, 97, 109, 101], .sl [.agg [.str [99, 111, 110, 115], .sl [.str [97], .str [98]]], .agg [.str [99, 111, 110, 115], .sl [.str [101], .str [102]]]], .sl [.agg [.str [115, 97, 109, 101], .sl [.str [97], .str [101]]], .agg [.str [115, 97, 109, 101], .sl [.str [98], .str [102]]]]]], [.int .i64 (0)])
theorem m46 : Good G e46 := z0a (T := tC) allC (m := 1000) (n := 100) g146 rfl rfl (by kernel_rfl)
def tD : List Ent := e31 :: e32 :: e33 :: e34 :: e35 :: e36 :: e37 :: e38 :: e39 :: e40 :: e41 :: e42 :: e43 :: e44 :: e45 :: e46 :: tC
theorem allD : ∀ e ∈ tD, Good G e := all_cons m31 (all_cons m32 (all_cons m33 (all_cons m34 (all_cons m35 (all_cons m36 (all_cons m37 (all_cons m38 (all_cons m39 (all_cons m40 (all_cons m41 (all_cons m42 (all_cons m43 (all_cons m44 (all_cons m45 (all_cons m46 (allC))))))))))))))))
end Go.Lift.K
namespace Go.Lift.K
open Go Go.Lift T1
set_option maxRecDepth 100000
def e47 : Ent := (122, [.agg [.sl [.agg [.str [102, 105, 110], .int .i64 (1), .int .i64 (0)]], .sl [.agg [.str [102, 105, 110], .sl [.agg [.str [110, 105, 108], .sl []]], .sl []], .agg [.str [102, 105, 110], .sl [.agg [.str [99, 111, 110, 115], .sl [.str [104], .str [116]]]], .sl [.agg [.str [102, 105, 110], .sl [.str [116]]]]]]]], [.int .i64 (0)])
theorem m47 : Good G e47 := z0a (T := tD) allD (m := 1000) (n := 100) g122 rfl rfl (by kernel_rfl)
def e48 : Ent := (122, [.agg [.sl [.agg [.str [102, 105, 110], .int .i64 (1), .int .i64 (1)]], .sl [.agg [.str [102, 105, 110], .sl [.agg [.str [110, 105, 108], .sl []]], .sl []], .agg [.str [102, 105, 110], .sl [.agg [.str [99, 111, 110, 115], .sl [.str [104], .str [116]]]], .sl [.agg [.str [102, 105, 110], .sl [.str [116]]]]]]]], [.int .i64 (0)])
theorem m48 : Good G e48 := z0a (T := tD) allD (m := 1000) (n := 100) g122 rfl rfl (by kernel_rfl)
def e49 : Ent := (122, [.agg [.sl [.agg [.str [115, 97, 109, 101], .int .i64 (2), .int .i64 (1)]], .sl [.agg [.str [115, 97, 109, 101], .sl [.agg [.str [99, 111, 110, 115], .sl [.str [97], .str [98]]], .agg [.str [99, 111, 110, 115], .sl [.str [101], .str [102]]]], .sl [.agg [.str [115, 97, 109, 101], .sl [.str [97], .str [101]]], .agg [.str [115, 97, 109, 101], .sl [.str [98], .str [102]]]]], .agg [.str [115, 97, 109, 101], .sl [.agg [.str [97], .sl []], .agg [.str [97], .sl []]], .sl []]]]], [.int .i64 (0)])
theorem m49 : Good G e49 := z0a (T := tD) allD (m := 1000) (n := 100) g122 rfl rfl (by kernel_rfl)
def e50 : Ent := (50, [.agg [.str [102, 105, 110], .sl [.agg [.str [110, 105, 108], .sl []]], .sl []], .agg [.str [102, 105, 110], .sl [.agg [.sl [.agg [.str [99, 111, 110, 115], .sl [.int .i64 (1), .int .i64 (0)]], .agg [.str [97], .sl []]], .int .i64 (0)]]]], [.sl [], .bool false])
theorem m50 : Good G e50 := z0a (T := tD) allD (m := 1000) (n := 100) g50 rfl rfl (by kernel_rfl)
def e51 : Ent := (50, [.agg [.str [102, 105, 110], .sl [.agg [.str [99, 111, 110, 115], .sl [.str [104], .str [116]]]], .sl [.agg [.str [102, 105, 110], .sl [.str [116]]]]], .agg [.str [102, 105, 110], .sl [.agg [.sl [.agg [.str [99, 111, 110, 115], .sl [.int .i64 (1), .int .i64 (0)]], .agg [.str [97], .sl []]], .int .i64 (0)]]]], [.sl [.agg [.str [102, 105, 110], .sl [.agg [.sl [.agg [.str [99, 111, 110, 115], .sl [.int .i64 (1), .int .i64 (0)]], .agg [.str [97], .sl []]], .int .i64 (0)]]]], .bool true])
theorem m51 : Good G e51 := z0a (T := tD) allD (m := 1000) (n := 100) g50 rfl rfl (by kernel_rfl)
def e52 : Ent := (50, [.agg [.str [115, 97, 109, 101], .sl [.agg [.str [97], .sl []], .agg [.str [97], .sl []]], .sl []], .agg [.str [115, 97, 109, 101], .sl [.agg [.sl [.agg [.str [97], .sl []]], .int .i64 (0)], .agg [.sl [.agg [.str [97], .sl []]], .int .i64 (0)]]]], [.sl [], .bool true])
theorem m52 : Good G e52 := z0a (T := tD) allD (m := 1000) (n := 100) g50 rfl rfl (by kernel_rfl)
def e53 : Ent := (50, [.agg [.str [115, 97, 109, 101], .sl [.agg [.str [97], .sl []], .agg [.str [97], .sl []]], .sl []], .agg [.str [115, 97, 109, 101], .sl [.agg [.sl [.agg [.str [99, 111, 110, 115], .sl [.int .i64 (1), .int .i64 (0)]], .agg [.str [97], .sl []]], .int .i64 (0)], .agg [.sl [.agg [.str [99, 111, 110, 115], .sl [.int .i64 (1), .int .i64 (0)]], .agg [.str [97], .sl []]], .int .i64 (0)]]]], [.sl [], .bool false])
theorem m53 : Good G e53 := z0a (T := tD) allD (m := 1000) (n := 100) g50 rfl rfl (by kernel_rfl)
def e54 : Ent := (50, [.agg [.str [115, 97, 109, 101], .sl [.agg [.str [99, 111, 110, 115], .sl [.str [97], .str [98]]], .agg [.str [99, 111, 110, 115], .sl [.str [101], .str [102]]]], .sl [.agg [.str [115, 97, 109, 101], .sl [.str [97], .str [101]]], .agg [.str [115, 97, 109, 101], .sl [.str [98], .str [102]]]]], .agg [.str [115, 97, 109, 101], .sl [.agg [.sl [.agg [.str [97], .sl []]], .int .i64 (0)], .agg [.sl [.agg [.str [97], .sl []]], .int .i64 (0)]]]], [.sl [], .bool false])
theorem m54 : Good G e54 := z0a (T := tD) allD (m := 1000) (n := 100) g50 rfl rfl (by kernel_rfl)
def e55 : Ent := (50, [.agg [.str [115, 97, 109, 101], .sl [.agg [.str [99, 111, 110, 115], .sl [.str [97], .str [98]]], .agg [.str [99, 111, 110, 115], .sl [.str [101], .str [102]]]], .sl [.agg [.str [115, 97, 109, 101], .sl [.str [97], .str [101]]], .agg [.str [115, 97, 109, 101], .sl [.str [98], .str [102]]]]], .agg [.str [115, 97, 109, 101], .sl [.agg [.sl [.agg [.str [99, 111, 110, 115], .sl [.int .i64 (1), .int .i64 (0)]], .agg [.str [97], .sl []]], .int .i64 (0)], .agg [.sl [.agg [.str [99, 111, 110, 115], .sl [.int .i64 (1), .int .i64 (0)]], .agg [.str [97], .sl []]], .int .i64 (0)]]]], [.sl [.agg [.str [115, 97, 109, 101], .sl [.agg [.sl [.agg [.str [97], .sl []]], .int .i64 (0)], .agg [.sl [.agg [.str [97], .sl []]], .int .i64 (0)]]], .agg [.str [115, 97, 109, 101], .sl [.agg [.sl [.agg [.str [99, 111, 110, 115], .sl [.int .i64 (1), .int .i64 (0)]], .agg [.str [97], .sl []]], .int .i64 (0)], .agg [.sl [.agg [.str [99, 111, 110, 115], .sl [.int .i64 (1), .int .i64 (0)]], .agg [.str [97], .sl []]], .int .i64 (0)]]]], .bool true])
theorem m55 : Good G e55 := z0a (T := tD) allD (m := 1000) (n := 100) g50 rfl rfl (by kernel_rfl)
def e56 : Ent := (51, [.agg [.str [102, 105, 110], .sl [.agg [.sl [.agg [.str [99, 111, 110, 115], .sl [.int .i64 (1), .int .i64 (0)]], .agg [.str [97], .sl []]], .int .i64 (0)]]]], [.agg [.str [102, 105, 110], .sl [.agg [.sl [.agg [.str [99, 111, 110, 115], .sl [.int .i64 (1), .int .i64 (0)]], .agg [.str [97], .sl []]], .int .i64 (0)]]]])
theorem m56 : Good G e56 := z0a (T := tD) allD (m := 1000) (n := 100) g51 rfl rfl (by kernel_rfl)
def e57 : Ent := (51, [.agg [.str [115, 97, 109, 101], .sl [.agg [.sl [.agg [.str [97], .sl []]], .int .i64 (0)], .agg [.sl [.agg [.str [97], .sl []]], .int .i64 (0)]]]], [.agg [.str [115, 97, 109, 101], .sl [.agg [.sl [.agg [.str [97], .sl []]], .int .i64 (0)], .agg [.sl [.agg [.str [97], .sl []]], .int .i64 (0)]]]])
theorem m57 : Good G e57 := z0a (T := tD) allD (m := 1000) (n := 100) g51 rfl rfl (by kernel_rfl)
def e58 : Ent := (51, [.agg [.str [115, 97, 109, 101], .sl [.agg [.sl [.agg [.str [99, 111, 110, 115], .sl [.int .i64 (1), .int .i64 (0)]], .agg [.str [97], .sl []]], .int .i64 (0)], .agg [.sl [.agg [.str [99, 111, 110, 115], .sl [.int .i64 (1), .int .i64 (0)]], .agg [.str [97], .sl []]], .int .i64 (0)]]]], [.agg [.str [115, 97, 109, 101], .sl [.agg [.sl [.agg [.str [99, 111, 110, 115], .sl [.int .i64 (1), .int .i64 (0)]], .agg [.str [97], .sl []]], .int .i64 (0)], .agg [.sl [.agg [.str [99, 111, 110, 115], .sl [.int .i64 (1), .int .i64 (0)]], .agg [.str [97], .sl []]], .int .i64 (0)]]]])
theorem m58 : Good G e58 := z0a (T := tD) allD (m := 1000) (n := 100) g51 rfl rfl (by kernel_rfl)
def e59 : Ent := (51, [.agg [.str [115, 97, 109, 101], .sl [.agg [.sl [.agg [.str [99, 111, 110, 115], .sl [.int .i64 (1), .int .i64 (0)]], .agg [.str [97], .sl []]], .int .i64 (0)], .agg [.sl [.agg [.str [99, 111, 110, 115], .sl [.int .i64 (1), .int .i64 (2)]], .agg [.str [97], .sl []], .agg [.str [99, 111, 110, 115], .sl [.int .i64 (1), .int .i64 (0)]]], .int .i64 (0)]]]], [.agg [.str [115, 97, 109, 101], .sl [.agg [.sl [.agg [.str [99, 111, 110, 115], .sl [.int .i64 (1), .int .i64 (0)]], .agg [.str [97], .sl []]], .int .i64 (0)], .agg [.sl [.agg [.str [99, 111, 110, 115], .sl [.int .i64 (1), .int .i64 (0)]], .agg [.str [97], .sl []]], .int .i64 (0)]]]])
theorem m59 : Good G e59 := z0a (T := tD) allD (m := 1000) (n := 100) g51 rfl rfl (by kernel_rfl)
def tE : List Ent := e47 :: e48 :: e49 :: e50 :: e51 :: e52 :: e53 :: e54 :: e55 :: e56 :: e57 :: e58 :: e59 :: tD
theorem allE : ∀ e ∈ tE, Good G e := all_cons m47 (all_cons m48 (all_cons m49 (all_cons m50 (all_cons m51 (all_cons m52 (all_cons m53 (all_cons m54 (all_cons m55 (all_cons m56 (all_cons m57 (all_cons m58 (all_cons m59 (allD)))))))))))))
end Go.Lift.K
namespace Go.Lift.K
open Go Go.Lift T1
set_option maxRecDepth 100000
def e60 : Ent := (97, [.agg [.sl [.agg [.str [102, 105, 110], .int .i64 (1), .int .i64 (0)]], .sl [.agg [.str [102, 105, 110], .sl [.agg [.str [110, 105, 108], .sl []]], .sl []], .agg [.str [102, 105, 110], .sl [.agg [.str [99, 111, 110, 115], .sl [.str [104], .str [116]]]], .sl [.agg [.str [102, 105, 110], .sl [.str [116]]]]]]], .agg [.str [102, 105, 110], .sl [.agg [.sl [.agg [.str [99, 111, 110, 115], .sl [.int .i64 (1), .int .i64 (0)]], .agg [.str [97], .sl []]], .int .i64 (0)]]]], [.int .i64 (0)])
theorem m60 : Good G e60 := z0a (T := tE) allE (m := 1000) (n := 100) g97 rfl rfl (by kernel_rfl)
def e61 : Ent := (97, [.agg [.sl [.agg [.str [102, 105, 110], .int .i64 (1), .int .i64 (1)]], .sl [.agg [.str [102, 105, 110], .sl [.agg [.str [110, 105, 108], .sl []]], .sl []], .agg [.str [102, 105, 110], .sl [.agg [.str [99, 111, 110, 115], .sl [.str [104], .str [116]]]], .sl [.agg [.str [102, 105, 110], .sl [.str [116]]]]]]], .agg [.str [102, 105, 110], .sl [.agg [.sl [.agg [.str [99, 111, 110, 115], .sl [.int .i64 (1), .int .i64 (0)]], .agg [.str [97], .sl []]], .int .i64 (0)]]]], [.int .i64 (0)])
theorem m61 : Good G e61 := z0a (T := tE) allE (m := 1000) (n := 100) g97 rfl rfl (by kernel_rfl)
def e62 : Ent := (97, [.agg [.sl [.agg [.str [115, 97, 109, 101], .int .i64 (2), .int .i64 (1)]], .sl [.agg [.str [115, 97, 109, 101], .sl [.agg [.str [99, 111, 110, 115], .sl [.str [97], .str [98]]], .agg [.str [99, 111, 110, 115], .sl [.str [101], .str [102]]]], .sl [.agg [.str [115, 97, 109, 101], .sl [.str [97], .str [101]]], .agg [.str [115, 97, 109, 101], .sl [.str [98], .str [102]]]]], .agg [.str [115, 97, 109, 101], .sl [.agg [.str [97], .sl []], .agg [.str [97], .sl []]], .sl []]]], .agg [.str [115, 97, 109, 101], .sl [.agg [.sl [.agg [.str [99, 111, 110, 115], .sl [.int .i64 (1), .int .i64 (0)]], .agg [.str [97], .sl []]], .int .i64 (0)], .agg [.sl [.agg [.str [99, 111, 110, 115], .sl [.int .i64 (1), .int .i64 (2)]], .agg [.str [97], .sl []], .agg [.str [99, 111, 110, 115], .sl [.int .i64 (1), .int .i64 (0)]]], .int .i64 (0)]]]], [.int .i64 (0)])
theorem m62 : Good G e62 := z0a (T := tE) allE (m := 1000) (n := 100) g97 rfl rfl (by kernel_rfl)
def e63 : Ent := (134, [.agg [.str [102, 105, 110], .sl [.agg [.sl [.agg [.str [99, 111, 110, 115], .sl [.int .i64 (1), .int .i64 (0)]], .agg [.str [97], .sl []]], .int .i64 (0)]]]], [.agg [.str [102, 105, 110], .str [99, 111, 110, 115, 44, 49, 44, 48, 59, 97, 59], .str [], .str []]])
theorem m63 : Good G e63 := z0a (T := tE) allE (m := 1000) (n := 100) g134 rfl rfl (by kernel_rfl)
def e64 : Ent := (134, [.agg [.str [115, 97, 109, 101], .sl [.agg [.sl [.agg [.str [97], .sl []]], .int .i64 (0)], .agg [.sl [.agg [.str [97], .sl []]], .int .i64 (0)]]]], [.agg [.str [115, 97, 109, 101], .str [97, 59], .str [97, 59], .str []]])
theorem m64 : Good G e64 := z0a (T := tE) allE (m := 1000) (n := 100) g134 rfl rfl (by kernel_rfl)
def e65 : Ent := (134, [.agg [.str [115, 97, 109, 101], .sl [.agg [.sl [.agg [.str [99, 111, 110, 115], .sl [.int .i64 (1), .int .i64 (0)]], .agg [.str [97], .sl []]], .int .i64 (0)], .agg [.sl [.agg [.str [99, 111, 110, 115], .sl [.int .i64 (1), .int .i64 (0)]], .agg [.str [97], .sl []]], .int .i64 (0)]]]], [.agg [.str [115, 97, 109, 101], .str [99, 111, 110, 115, 44, 49, 44, 48, 59, 97, 59], .str [99, 111, 110, 115, 44, 49, 44, 48, 59, 97, 59], .str []]])
theorem m65 : Good G e65 := z0a (T := tE) allE (m := 1000) (n := 100) g134 rfl rfl (by kernel_rfl)
def tF : List Ent := e60 :: e61 :: e62 :: e63 :: e64 :: e65 :: tE
theorem allF : ∀ e ∈ tF, Good G e := all_cons m60 (all_cons m61 (all_cons m62 (all_cons m63 (all_cons m64 (all_cons m65 (allE))))))
end Go.Lift.K
namespace Go.Lift.K
open Go Go.Lift T1
set_option maxRecDepth 100000
def e66 : Ent := (33, [.agg [.sl [.agg [.str [102, 105, 110], .int .i64 (1), .int .i64 (0)]], .sl [.agg [.str [102, 105, 110], .sl [.agg [.str [110, 105, 108], .sl []]], .sl []], .agg [.str [102, 105, 110], .sl [.agg [.str [99, 111, 110, 115], .sl [.str [104], .str [116]]]], .sl [.agg [.str [102, 105, 110], .sl [.str [116]]]]]]], .agg [.str [102, 105, 110], .sl [.agg [.sl [.agg [.str [99, 111, 110, 115], .sl [.int .i64 (1), .int .i64 (0)]], .agg [.str [97], .sl []]], .int .i64 (0)]]]], [.bool false, .int .i64 (0)])
theorem m66 : Good G e66 := z0a (T := tF) allF (m := 1000) (n := 100) g33 rfl rfl (by kernel_rfl)
def e67 : Ent := (33, [.agg [.sl [.agg [.str [102, 105, 110], .int .i64 (1), .int .i64 (1)]], .sl [.agg [.str [102, 105, 110], .sl [.agg [.str [110, 105, 108], .sl []]], .sl []], .agg [.str [102, 105, 110], .sl [.agg [.str [99, 111, 110, 115], .sl [.str [104], .str [116]]]], .sl [.agg [.str [102, 105, 110], .sl [.str [116]]]]]]], .agg [.str [102, 105, 110], .sl [.agg [.sl [.agg [.str [99, 111, 110, 115], .sl [.int .i64 (1), .int .i64 (0)]], .agg [.str [97], .sl []]], .int .i64 (0)]]]], [.bool true, .int .i64 (0)])
theorem m67 : Good G e67 := z0a (T := tF) allF (m := 1000) (n := 100) g33 rfl rfl (by kernel_rfl)
def e68 : Ent := (33, [.agg [.sl [.agg [.str [115, 97, 109, 101], .int .i64 (2), .int .i64 (1)]], .sl [.agg [.str [115, 97, 109, 101], .sl [.agg [.str [99, 111, 110, 115], .sl [.str [97], .str [98]]], .agg [.str [99, 111, 110, 115], .sl [.str [101], .str [102]]]], .sl [.agg [.str [115, 97, 109, 101], .sl [.str [97], .str [101]]], .agg [.str [115, 97, 109, 101], .sl [.str [98], .str [102]]]]], .agg [.str [115, 97, 109, 101], .sl [.agg [.str [97], .sl []], .agg [.str [97], .sl []]], .sl []]]], .agg [.str [115, 97, 109, 101], .sl [.agg [.sl [.agg [.str [99, 111, 110, 115], .sl [.int .i64 (1), .int .i64 (0)]], .agg [.str [97], .sl []]], .int .i64 (0)], .agg [.sl [.agg [.str [99, 111, 110, 115], .sl [.int .i64 (1), .int .i64 (2)]], .agg [.str [97], .sl []], .agg [.str [99, 111, 110, 115], .sl [.int .i64 (1), .int .i64 (0)]]], .int .i64 (0)]]]], [.bool true, .int .i64 (0)])
theorem m68 : Good G e68 := z0a (T := tF) allF (m := 1000) (n := 100) g33 rfl rfl (by kernel_rfl)
def e69 : Ent := (36, [.agg [.sl [.agg [.str [115, 97, 109, 101], .int .i64 (2), .int .i64 (1)]], .sl [.agg [.str [115, 97, 109, 101], .sl [.agg [.str [99, 111, 110, 115], .sl [.str [97], .str [98]]], .agg [.str [99, 111, 110, 115], .sl [.str [101], .str [102]]]], .sl [.agg [.str [115, 97, 109, 101], .sl [.str [97], .str [101]]], .agg [.str [115, 97, 109, 101], .sl [.str [98], .str [102]]]]], .agg [.str [115, 97, 109, 101], .sl [.agg [.str [97], .sl []], .agg [.str [97], .sl []]], .sl []]]], .agg [.str [115, 97, 109, 101], .sl [.agg [.sl [.agg [.str [99, 111, 110, 115], .sl [.int .i64 (1), .int .i64 (0)]], .agg [.str [97], .sl []]], .int .i64 (0)], .agg [.sl [.agg [.str [99, 111, 110, 115], .sl [.int .i64 (1), .int .i64 (2)]], .agg [.str [97], .sl []], .agg [.str [99, 111, 110, 115], .sl [.int .i64 (1), .int .i64 (0)]]], .int .i64 (0)]]]], [.sl [.agg [.str [115, 97, 109, 101], .sl [.agg [.sl [.agg [.str [99, 111, 110, 115], .sl [.int .i64 (1), .int .i64 (0)]], .agg [.str [97], .sl []]], .int .i64 (0)], .agg [.sl [.agg [.str [99, 111, 110, 115], .sl [.int .i64 (1), .int .i64 (0)]], .agg [.str [97], .sl []]], .int .i64 (0)]]], .agg [.str [115, 97, 109, 101], .sl [.agg [.sl [.agg [.str [97], .sl []]], .int .i64 (0)], .agg [.sl [.agg [.str [97], .sl []]], .int .i64 (0)]]]], .int .i64 (0)])
theorem m69 : Good G e69 := z0a (T := tF) allF (m := 1000) (n := 100) g36 rfl rfl (by kernel_rfl)
def e70 : Ent := (37, [.agg [.sl [.agg [.str [102, 105, 110], .int .i64 (1), .int .i64 (1)]], .sl [.agg [.str [102, 105, 110], .sl [.agg [.str [110, 105, 108], .sl []]], .sl []], .agg [.str [102, 105, 110], .sl [.agg [.str [99, 111, 110, 115], .sl [.str [104], .str [116]]]], .sl [.agg [.str [102, 105, 110], .sl [.str [116]]]]]]], .agg [.str [102, 105, 110], .sl [.agg [.sl [.agg [.str [99, 111, 110, 115], .sl [.int .i64 (1), .int .i64 (0)]], .agg [.str [97], .sl []]], .int .i64 (0)]]]], [.agg [.sl [.agg [.str [102, 105, 110], .sl [.agg [.sl [.agg [.str [99, 111, 110, 115], .sl [.int .i64 (1), .int .i64 (0)]], .agg [.str [97], .sl []]], .int .i64 (0)]]]], .sl [.int .i64 (1)]], .int .i64 (0)])
theorem m70 : Good G e70 := z0a (T := tF) allF (m := 1000) (n := 100) g37 rfl rfl (by kernel_rfl)
def e71 : Ent := (38, [.agg [.sl [.agg [.str [102, 105, 110], .int .i64 (1), .int .i64 (0)]], .sl [.agg [.str [102, 105, 110], .sl [.agg [.str [110, 105, 108], .sl []]], .sl []], .agg [.str [102, 105, 110], .sl [.agg [.str [99, 111, 110, 115], .sl [.str [104], .str [116]]]], .sl [.agg [.str [102, 105, 110], .sl [.str [116]]]]]]], .agg [.str [102, 105, 110], .sl [.agg [.sl [.agg [.str [99, 111, 110, 115], .sl [.int .i64 (1), .int .i64 (0)]], .agg [.str [97], .sl []]], .int .i64 (0)]]]], [.agg [.sl [.agg [.str [102, 105, 110], .sl [.agg [.sl [.agg [.str [99, 111, 110, 115], .sl [.int .i64 (1), .int .i64 (0)]], .agg [.str [97], .sl []]], .int .i64 (0)]]]], .sl [.sl [.int .i64 (-1), .int .i64 (0)]]], .int .i64 (0)])
theorem m71 : Good G e71 := z0a (T := tF) allF (m := 1000) (n := 100) g38 rfl rfl (by kernel_rfl)
def tH : List Ent := e66 :: e67 :: e68 :: e69 :: e70 :: e71 :: tF
theorem allH : ∀ e ∈ tH, Good G e := all_cons m66 (all_cons m67 (all_cons m68 (all_cons m69 (all_cons m70 (all_cons m71 (allF))))))
end Go.Lift.K
