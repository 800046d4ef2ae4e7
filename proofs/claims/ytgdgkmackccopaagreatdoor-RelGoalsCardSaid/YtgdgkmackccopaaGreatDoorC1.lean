/- Part C1 of the proof. -/
import Derived.Test.YtgdgkmackccopaaGreatDoorB2
import Derived.Test.YtgdgkmackccopaaGreatDoorA7
import Derived.KernelRfl
set_option linter.all false
namespace Go.Lift.K
open Go Go.Lift T1
set_option maxRecDepth 100000
abbrev mA := D.agg
abbrev mS := D.str
abbrev mL := D.sl
abbrev mB := D.bool
abbrev mI := D.int .i64
theorem gr {T : List Ent} (hT : ∀ e ∈ T, Good G e) {f : Nat} {ds rs : List D} {F : IFun} (h1 : G f = some F) (h2 : F.pure = true := by rfl) (h3 : F.nil2 = false := by rfl)
  (h : zbk G (zpf T) 1000 100 (.fn f [] []) (ds.map V.d) St.nul = some (tupV (rs.map V.d), St.nul) := by kernel_rfl) : Good G (f, ds, rs) := z63 hT h1 h2 h3 h
def e1 : Ent := (73, [mS [101], mS [97, 98, 99, 100, 101, 102, 103, 104, 105, 106, 107, 108, 109, 110, 111, 112, 113, 114, 115, 116, 117, 118, 119, 120, 121, 122]], [mS []])
theorem m1 : Good G e1 := gr all_nil g73
def e2 : Ent := (73, [mS [102, 105, 110], mS [97, 98, 99, 100, 101, 102, 103, 104, 105, 106, 107, 108, 109, 110, 111, 112, 113, 114, 115, 116, 117, 118, 119, 120, 121, 122]], [mS []])
theorem m2 : Good G e2 := gr all_nil g73
def e3 : Ent := (73, [mS [102], mS [97, 98, 99, 100, 101, 102, 103, 104, 105, 106, 107, 108, 109, 110, 111, 112, 113, 114, 115, 116, 117, 118, 119, 120, 121, 122]], [mS []])
theorem m3 : Good G e3 := gr all_nil g73
def e4 : Ent := (73, [mS [104], mS [97, 98, 99, 100, 101, 102, 103, 104, 105, 106, 107, 108, 109, 110, 111, 112, 113, 114, 115, 116, 117, 118, 119, 120, 121, 122]], [mS []])
theorem m4 : Good G e4 := gr all_nil g73
def e5 : Ent := (73, [mS [110, 105, 108], mS [97, 98, 99, 100, 101, 102, 103, 104, 105, 106, 107, 108, 109, 110, 111, 112, 113, 114, 115, 116, 117, 118, 119, 120, 121, 122]], [mS []])
theorem m5 : Good G e5 := gr all_nil g73
def e6 : Ent := (73, [mS [115, 97, 109, 101], mS [97, 98, 99, 100, 101, 102, 103, 104, 105, 106, 107, 108, 109, 110, 111, 112, 113, 114, 115, 116, 117, 118, 119, 120, 121, 122]], [mS []])
theorem m6 : Good G e6 := gr all_nil g73
def e7 : Ent := (73, [mS [116], mS [97, 98, 99, 100, 101, 102, 103, 104, 105, 106, 107, 108, 109, 110, 111, 112, 113, 114, 115, 116, 117, 118, 119, 120, 121, 122]], [mS []])
theorem m7 : Good G e7 := gr all_nil g73
def e8 : Ent := (73, [mS [97], mS [97, 98, 99, 100, 101, 102, 103, 104, 105, 106, 107, 108, 109, 110, 111, 112, 113, 114, 115, 116, 117, 118, 119, 120, 121, 122]], [mS []])
theorem m8 : Good G e8 := gr all_nil g73
def e9 : Ent := (73, [mS [98], mS [97, 98, 99, 100, 101, 102, 103, 104, 105, 106, 107, 108, 109, 110, 111, 112, 113, 114, 115, 116, 117, 118, 119, 120, 121, 122]], [mS []])
theorem m9 : Good G e9 := gr all_nil g73
def e10 : Ent := (73, [mS [99, 111, 110, 115], mS [97, 98, 99, 100, 101, 102, 103, 104, 105, 106, 107, 108, 109, 110, 111, 112, 113, 114, 115, 116, 117, 118, 119, 120, 121, 122]], [mS []])
theorem m10 : Good G e10 := gr all_nil g73
def e11 : Ent := (107, [mI 0], [mS [48]])
theorem m11 : Good G e11 := gr all_nil g107
def e12 : Ent := (107, [mI 1], [mS [49]])
theorem m12 : Good G e12 := gr all_nil g107
def tA : List Ent := e1 :: e2 :: e3 :: e4 :: e5 :: e6 :: e7 :: e8 :: e9 :: e10 :: e11 :: e12 :: []
theorem allA : ∀ e ∈ tA, Good G e := all_cons m1 (all_cons m2 (all_cons m3 (all_cons m4 (all_cons m5 (all_cons m6 (all_cons m7 (all_cons m8 (all_cons m9 (all_cons m10 (all_cons m11 (all_cons m12 (all_nil))))))))))))
end Go.Lift.K
namespace Go.Lift.K
open Go Go.Lift T1
set_option maxRecDepth 100000
def e13 : Ent := (78, [mA [mL [mA [mS [97], mL []]], mI 0]], [mS [97, 59]])
theorem m13 : Good G e13 := gr allA g78
def e14 : Ent := (78, [mA [mL [mA [mS [99, 111, 110, 115], mL [mI 1, mI 0]], mA [mS [97], mL []]], mI 0]], [mS [99, 111, 110, 115, 44, 49, 44, 48, 59, 97, 59]])
theorem m14 : Good G e14 := gr allA g78
def e15 : Ent := (47, [mS [101]], [mB true])
theorem m15 : Good G e15 := gr allA g47
def e16 : Ent := (47, [mS [102, 105, 110]], [mB true])
theorem m16 : Good G e16 := gr allA g47
def e17 : Ent := (47, [mS [102]], [mB true])
theorem m17 : Good G e17 := gr allA g47
def e18 : Ent := (47, [mS [104]], [mB true])
theorem m18 : Good G e18 := gr allA g47
def e19 : Ent := (47, [mS [110, 105, 108]], [mB true])
theorem m19 : Good G e19 := gr allA g47
def e20 : Ent := (47, [mS [115, 97, 109, 101]], [mB true])
theorem m20 : Good G e20 := gr allA g47
def e21 : Ent := (47, [mS [116]], [mB true])
theorem m21 : Good G e21 := gr allA g47
def e22 : Ent := (47, [mS [97]], [mB true])
theorem m22 : Good G e22 := gr allA g47
def e23 : Ent := (47, [mS [98]], [mB true])
theorem m23 : Good G e23 := gr allA g47
def e24 : Ent := (47, [mS [99, 111, 110, 115]], [mB true])
theorem m24 : Good G e24 := gr allA g47
def e25 : Ent := (96, [mS [97]], [mB true])
theorem m25 : Good G e25 := gr allA g96
def e26 : Ent := (96, [mS [99, 111, 110, 115]], [mB true])
theorem m26 : Good G e26 := gr allA g96
def tB : List Ent := e13 :: e14 :: e15 :: e16 :: e17 :: e18 :: e19 :: e20 :: e21 :: e22 :: e23 :: e24 :: e25 :: e26 :: tA
theorem allB : ∀ e ∈ tB, Good G e := all_cons m13 (all_cons m14 (all_cons m15 (all_cons m16 (all_cons m17 (all_cons m18 (all_cons m19 (all_cons m20 (all_cons m21 (all_cons m22 (all_cons m23 (all_cons m24 (all_cons m25 (all_cons m26 (allA))))))))))))))
end Go.Lift.K
namespace Go.Lift.K
open Go Go.Lift T1
set_option maxRecDepth 100000
def e27 : Ent := (65, [mA [mL [mA [mS [97], mL []]], mI 0]], [mI 0])
theorem m27 : Good G e27 := gr allB g65
def e28 : Ent := (65, [mA [mL [mA [mS [99, 111, 110, 115], mL [mI 1, mI 0]], mA [mS [97], mL []]], mI 0]], [mI 0])
theorem m28 : Good G e28 := gr allB g65
def e29 : Ent := (65, [mA [mL [mA [mS [99, 111, 110, 115], mL [mI 1, mI 0]], mA [mS [97], mL []]], mI 1]], [mI 0])
theorem m29 : Good G e29 := gr allB g65
def e30 : Ent := (65, [mA [mL [mA [mS [99, 111, 110, 115], mL [mI 1, mI 2]], mA [mS [97], mL []], mA [mS [99, 111, 110, 115], mL [mI 1, mI 0]]], mI 0]], [mI 0])
theorem m30 : Good G e30 := gr allB g65
def tC : List Ent := e27 :: e28 :: e29 :: e30 :: tB
theorem allC : ∀ e ∈ tC, Good G e := all_cons m27 (all_cons m28 (all_cons m29 (all_cons m30 (allB))))
end Go.Lift.K
namespace Go.Lift.K
open Go Go.Lift T1
set_option maxRecDepth 100000
def e31 : Ent := (43, [mA [mL [mA [mS [97], mL []]], mI 0]], [mA [mL [mA [mS [97], mL []]], mI 0], mI 0])
theorem m31 : Good G e31 := gr allC g43
def e32 : Ent := (43, [mA [mL [mA [mS [99, 111, 110, 115], mL [mI 1, mI 0]], mA [mS [97], mL []]], mI 0]], [mA [mL [mA [mS [99, 111, 110, 115], mL [mI 1, mI 0]], mA [mS [97], mL []]], mI 0], mI 0])
theorem m32 : Good G e32 := gr allC g43
def e33 : Ent := (43, [mA [mL [mA [mS [99, 111, 110, 115], mL [mI 1, mI 0]], mA [mS [97], mL []]], mI 1]], [mA [mL [mA [mS [97], mL []]], mI 0], mI 0])
theorem m33 : Good G e33 := gr allC g43
def e34 : Ent := (43, [mA [mL [mA [mS [99, 111, 110, 115], mL [mI 1, mI 2]], mA [mS [97], mL []], mA [mS [99, 111, 110, 115], mL [mI 1, mI 0]]], mI 0]], [mA [mL [mA [mS [99, 111, 110, 115], mL [mI 1, mI 0]], mA [mS [97], mL []]], mI 0], mI 0])
theorem m34 : Good G e34 := gr allC g43
def e35 : Ent := (59, [mA [mL [mA [mS [102, 105, 110], mI 1, mI 0]], mL [mA [mS [102, 105, 110], mL [mA [mS [110, 105, 108], mL []]], mL []], mA [mS [102, 105, 110], mL [mA [mS [99, 111, 110, 115], mL [mS [104], mS [116]]]], mL [mA [mS [102, 105, 110], mL [mS [116]]]]]]], mS [102, 105, 110]], [mI 0])
theorem m35 : Good G e35 := gr allC g59
def e36 : Ent := (59, [mA [mL [mA [mS [102, 105, 110], mI 1, mI 1]], mL [mA [mS [102, 105, 110], mL [mA [mS [110, 105, 108], mL []]], mL []], mA [mS [102, 105, 110], mL [mA [mS [99, 111, 110, 115], mL [mS [104], mS [116]]]], mL [mA [mS [102, 105, 110], mL [mS [116]]]]]]], mS [102, 105, 110]], [mI 0])
theorem m36 : Good G e36 := gr allC g59
def e37 : Ent := (59, [mA [mL [mA [mS [115, 97, 109, 101], mI 2, mI 1]], mL [mA [mS [115, 97, 109, 101], mL [mA [mS [99, 111, 110, 115], mL [mS [97], mS [98]]], mA [mS [99, 111, 110, 115], mL [mS [101], mS [102]]]], mL [mA [mS [115, 97, 109, 101], mL [mS [97], mS [101]]], mA [mS [115, 97, 109, 101], mL [mS [98], mS [102]]]]], mA [mS [115, 97, 109, 101], mL [mA [mS [97], mL []], mA [mS [97], mL []]], mL []]]], mS [115, 97, 109, 101]], [mI 0])
theorem m37 : Good G e37 := gr allC g59
def e38 : Ent := (90, [mA [mL [mA [mS [102, 105, 110], mI 1, mI 0]], mL [mA [mS [102, 105, 110], mL [mA [mS [110, 105, 108], mL []]], mL []], mA [mS [102, 105, 110], mL [mA [mS [99, 111, 110, 115], mL [mS [104], mS [116]]]], mL [mA [mS [102, 105, 110], mL [mS [116]]]]]]], mI 0], [mI 0])
theorem m38 : Good G e38 := gr allC g90
def e39 : Ent := (90, [mA [mL [mA [mS [102, 105, 110], mI 1, mI 1]], mL [mA [mS [102, 105, 110], mL [mA [mS [110, 105, 108], mL []]], mL []], mA [mS [102, 105, 110], mL [mA [mS [99, 111, 110, 115], mL [mS [104], mS [116]]]], mL [mA [mS [102, 105, 110], mL [mS [116]]]]]]], mI 0], [mI 0])
theorem m39 : Good G e39 := gr allC g90
def e40 : Ent := (90, [mA [mL [mA [mS [115, 97, 109, 101], mI 2, mI 1]], mL [mA [mS [115, 97, 109, 101], mL [mA [mS [99, 111, 110, 115], mL [mS [97], mS [98]]], mA [mS [99, 111, 110, 115], mL [mS [101], mS [102]]]], mL [mA [mS [115, 97, 109, 101], mL [mS [97], mS [101]]], mA [mS [115, 97, 109, 101], mL [mS [98], mS [102]]]]], mA [mS [115, 97, 109, 101], mL [mA [mS [97], mL []], mA [mS [97], mL []]], mL []]]], mI 0], [mI 0])
theorem m40 : Good G e40 := gr allC g90
def e41 : Ent := (91, [mA [mL [mA [mS [102, 105, 110], mI 1, mI 0]], mL [mA [mS [102, 105, 110], mL [mA [mS [110, 105, 108], mL []]], mL []], mA [mS [102, 105, 110], mL [mA [mS [99, 111, 110, 115], mL [mS [104], mS [116]]]], mL [mA [mS [102, 105, 110], mL [mS [116]]]]]]], mA [mS [102, 105, 110], mL [mA [mS [110, 105, 108], mL []]], mL []]], [mI 0])
theorem m41 : Good G e41 := gr allC g91
def e42 : Ent := (91, [mA [mL [mA [mS [102, 105, 110], mI 1, mI 0]], mL [mA [mS [102, 105, 110], mL [mA [mS [110, 105, 108], mL []]], mL []], mA [mS [102, 105, 110], mL [mA [mS [99, 111, 110, 115], mL [mS [104], mS [116]]]], mL [mA [mS [102, 105, 110], mL [mS [116]]]]]]], mA [mS [102, 105, 110], mL [mA [mS [99, 111, 110, 115], mL [mS [104], mS [116]]]], mL [mA [mS [102, 105, 110], mL [mS [116]]]]]], [mI 0])
theorem m42 : Good G e42 := gr allC g91
def e43 : Ent := (91, [mA [mL [mA [mS [102, 105, 110], mI 1, mI 1]], mL [mA [mS [102, 105, 110], mL [mA [mS [110, 105, 108], mL []]], mL []], mA [mS [102, 105, 110], mL [mA [mS [99, 111, 110, 115], mL [mS [104], mS [116]]]], mL [mA [mS [102, 105, 110], mL [mS [116]]]]]]], mA [mS [102, 105, 110], mL [mA [mS [110, 105, 108], mL []]], mL []]], [mI 0])
theorem m43 : Good G e43 := gr allC g91
def e44 : Ent := (91, [mA [mL [mA [mS [102, 105, 110], mI 1, mI 1]], mL [mA [mS [102, 105, 110], mL [mA [mS [110, 105, 108], mL []]], mL []], mA [mS [102, 105, 110], mL [mA [mS [99, 111, 110, 115], mL [mS [104], mS [116]]]], mL [mA [mS [102, 105, 110], mL [mS [116]]]]]]], mA [mS [102, 105, 110], mL [mA [mS [99, 111, 110, 115], mL [mS [104], mS [116]]]], mL [mA [mS [102, 105, 110], mL [mS [116]]]]]], [mI 0])
theorem m44 : Good G e44 := gr allC g91
def e45 : Ent := (91, [mA [mL [mA [mS [115, 97, 109, 101], mI 2, mI 1]], mL [mA [mS [115, 97, 109, 101], mL [mA [mS [99, 111, 110, 115], mL [mS [97], mS [98]]], mA [mS [99, 111, 110, 115], mL [mS [101], mS [102]]]], mL [mA [mS [115, 97, 109, 101], mL [mS [97], mS [101]]], mA [mS [115, 97, 109, 101], mL [mS [98], mS [102]]]]], mA [mS [115, 97, 109, 101], mL [mA [mS [97], mL []], mA [mS [97], mL []]], mL []]]], mA [mS [115, 97, 109, 101], mL [mA [mS [97], mL []], mA [mS [97], mL []]], mL []]], [mI 0])
theorem m45 : Good G e45 := gr allC g91
def e46 : Ent := (91, [mA [mL [mA [mS [115, 97, 109, 101], mI 2, mI 1]], mL [mA [mS [115, 97, 109, 101], mL [mA [mS [99, 111, 110, 115], mL [mS [97], mS [98]]], mA [mS [99, 111, 110, 115], mL [mS [101], mS [102]]]], mL [mA [mS [115, 97, 109, 101], mL [mS [97], mS [101]]], mA [mS [115, 97, 109, 101], mL [mS [98], mS [102]]]]], mA [mS [115, 97, 109, 101], mL [mA [mS [97], mL []], mA [mS [97], mL []]], mL []]]], mA [mS [115, 97, 109, 101], mL [mA [mS [99, 111, 110, 115], mL [mS [97], mS [98]]], mA [mS [99, 111, 110, 115], mL [mS [101], mS [102]]]], mL [mA [mS [115, 97, 109, 101], mL [mS [97], mS [101]]], mA [mS [115, 97, 109, 101], mL [mS [98], mS [102]]]]]], [mI 0])
theorem m46 : Good G e46 := gr allC g91
def tD : List Ent := e31 :: e32 :: e33 :: e34 :: e35 :: e36 :: e37 :: e38 :: e39 :: e40 :: e41 :: e42 :: e43 :: e44 :: e45 :: e46 :: tC
theorem allD : ∀ e ∈ tD, Good G e := all_cons m31 (all_cons m32 (all_cons m33 (all_cons m34 (all_cons m35 (all_cons m36 (all_cons m37 (all_cons m38 (all_cons m39 (all_cons m40 (all_cons m41 (all_cons m42 (all_cons m43 (all_cons m44 (all_cons m45 (all_cons m46 (allC))))))))))))))))
end Go.Lift.K
namespace Go.Lift.K
open Go Go.Lift T1
set_option maxRecDepth 100000
def e47 : Ent := (64, [mA [mL [mA [mS [102, 105, 110], mI 1, mI 0]], mL [mA [mS [102, 105, 110], mL [mA [mS [110, 105, 108], mL []]], mL []], mA [mS [102, 105, 110], mL [mA [mS [99, 111, 110, 115], mL [mS [104], mS [116]]]], mL [mA [mS [102, 105, 110], mL [mS [116]]]]]]]], [mI 0])
theorem m47 : Good G e47 := gr allD g64
def e48 : Ent := (64, [mA [mL [mA [mS [102, 105, 110], mI 1, mI 1]], mL [mA [mS [102, 105, 110], mL [mA [mS [110, 105, 108], mL []]], mL []], mA [mS [102, 105, 110], mL [mA [mS [99, 111, 110, 115], mL [mS [104], mS [116]]]], mL [mA [mS [102, 105, 110], mL [mS [116]]]]]]]], [mI 0])
theorem m48 : Good G e48 := gr allD g64
def e49 : Ent := (64, [mA [mL [mA [mS [115, 97, 109, 101], mI 2, mI 1]], mL [mA [mS [115, 97, 109, 101], mL [mA [mS [99, 111, 110, 115], mL [mS [97], mS [98]]], mA [mS [99, 111, 110, 115], mL [mS [101], mS [102]]]], mL [mA [mS [115, 97, 109, 101], mL [mS [97], mS [101]]], mA [mS [115, 97, 109, 101], mL [mS [98], mS [102]]]]], mA [mS [115, 97, 109, 101], mL [mA [mS [97], mL []], mA [mS [97], mL []]], mL []]]]], [mI 0])
theorem m49 : Good G e49 := gr allD g64
def e50 : Ent := (25, [mA [mS [102, 105, 110], mL [mA [mS [110, 105, 108], mL []]], mL []], mA [mS [102, 105, 110], mL [mA [mL [mA [mS [99, 111, 110, 115], mL [mI 1, mI 0]], mA [mS [97], mL []]], mI 0]]]], [mL [], mB false])
theorem m50 : Good G e50 := gr allD g25
def e51 : Ent := (25, [mA [mS [102, 105, 110], mL [mA [mS [99, 111, 110, 115], mL [mS [104], mS [116]]]], mL [mA [mS [102, 105, 110], mL [mS [116]]]]], mA [mS [102, 105, 110], mL [mA [mL [mA [mS [99, 111, 110, 115], mL [mI 1, mI 0]], mA [mS [97], mL []]], mI 0]]]], [mL [mA [mS [102, 105, 110], mL [mA [mL [mA [mS [99, 111, 110, 115], mL [mI 1, mI 0]], mA [mS [97], mL []]], mI 0]]]], mB true])
theorem m51 : Good G e51 := gr allD g25
def e52 : Ent := (25, [mA [mS [115, 97, 109, 101], mL [mA [mS [97], mL []], mA [mS [97], mL []]], mL []], mA [mS [115, 97, 109, 101], mL [mA [mL [mA [mS [97], mL []]], mI 0], mA [mL [mA [mS [97], mL []]], mI 0]]]], [mL [], mB true])
theorem m52 : Good G e52 := gr allD g25
def e53 : Ent := (25, [mA [mS [115, 97, 109, 101], mL [mA [mS [97], mL []], mA [mS [97], mL []]], mL []], mA [mS [115, 97, 109, 101], mL [mA [mL [mA [mS [99, 111, 110, 115], mL [mI 1, mI 0]], mA [mS [97], mL []]], mI 0], mA [mL [mA [mS [99, 111, 110, 115], mL [mI 1, mI 0]], mA [mS [97], mL []]], mI 0]]]], [mL [], mB false])
theorem m53 : Good G e53 := gr allD g25
def e54 : Ent := (25, [mA [mS [115, 97, 109, 101], mL [mA [mS [99, 111, 110, 115], mL [mS [97], mS [98]]], mA [mS [99, 111, 110, 115], mL [mS [101], mS [102]]]], mL [mA [mS [115, 97, 109, 101], mL [mS [97], mS [101]]], mA [mS [115, 97, 109, 101], mL [mS [98], mS [102]]]]], mA [mS [115, 97, 109, 101], mL [mA [mL [mA [mS [97], mL []]], mI 0], mA [mL [mA [mS [97], mL []]], mI 0]]]], [mL [], mB false])
theorem m54 : Good G e54 := gr allD g25
def e55 : Ent := (25, [mA [mS [115, 97, 109, 101], mL [mA [mS [99, 111, 110, 115], mL [mS [97], mS [98]]], mA [mS [99, 111, 110, 115], mL [mS [101], mS [102]]]], mL [mA [mS [115, 97, 109, 101], mL [mS [97], mS [101]]], mA [mS [115, 97, 109, 101], mL [mS [98], mS [102]]]]], mA [mS [115, 97, 109, 101], mL [mA [mL [mA [mS [99, 111, 110, 115], mL [mI 1, mI 0]], mA [mS [97], mL []]], mI 0], mA [mL [mA [mS [99, 111, 110, 115], mL [mI 1, mI 0]], mA [mS [97], mL []]], mI 0]]]], [mL [mA [mS [115, 97, 109, 101], mL [mA [mL [mA [mS [97], mL []]], mI 0], mA [mL [mA [mS [97], mL []]], mI 0]]], mA [mS [115, 97, 109, 101], mL [mA [mL [mA [mS [99, 111, 110, 115], mL [mI 1, mI 0]], mA [mS [97], mL []]], mI 0], mA [mL [mA [mS [99, 111, 110, 115], mL [mI 1, mI 0]], mA [mS [97], mL []]], mI 0]]]], mB true])
theorem m55 : Good G e55 := gr allD g25
def e56 : Ent := (26, [mA [mS [102, 105, 110], mL [mA [mL [mA [mS [99, 111, 110, 115], mL [mI 1, mI 0]], mA [mS [97], mL []]], mI 0]]]], [mA [mS [102, 105, 110], mL [mA [mL [mA [mS [99, 111, 110, 115], mL [mI 1, mI 0]], mA [mS [97], mL []]], mI 0]]]])
theorem m56 : Good G e56 := gr allD g26
def e57 : Ent := (26, [mA [mS [115, 97, 109, 101], mL [mA [mL [mA [mS [97], mL []]], mI 0], mA [mL [mA [mS [97], mL []]], mI 0]]]], [mA [mS [115, 97, 109, 101], mL [mA [mL [mA [mS [97], mL []]], mI 0], mA [mL [mA [mS [97], mL []]], mI 0]]]])
theorem m57 : Good G e57 := gr allD g26
def e58 : Ent := (26, [mA [mS [115, 97, 109, 101], mL [mA [mL [mA [mS [99, 111, 110, 115], mL [mI 1, mI 0]], mA [mS [97], mL []]], mI 0], mA [mL [mA [mS [99, 111, 110, 115], mL [mI 1, mI 0]], mA [mS [97], mL []]], mI 0]]]], [mA [mS [115, 97, 109, 101], mL [mA [mL [mA [mS [99, 111, 110, 115], mL [mI 1, mI 0]], mA [mS [97], mL []]], mI 0], mA [mL [mA [mS [99, 111, 110, 115], mL [mI 1, mI 0]], mA [mS [97], mL []]], mI 0]]]])
theorem m58 : Good G e58 := gr allD g26
def e59 : Ent := (26, [mA [mS [115, 97, 109, 101], mL [mA [mL [mA [mS [99, 111, 110, 115], mL [mI 1, mI 0]], mA [mS [97], mL []]], mI 0], mA [mL [mA [mS [99, 111, 110, 115], mL [mI 1, mI 2]], mA [mS [97], mL []], mA [mS [99, 111, 110, 115], mL [mI 1, mI 0]]], mI 0]]]], [mA [mS [115, 97, 109, 101], mL [mA [mL [mA [mS [99, 111, 110, 115], mL [mI 1, mI 0]], mA [mS [97], mL []]], mI 0], mA [mL [mA [mS [99, 111, 110, 115], mL [mI 1, mI 0]], mA [mS [97], mL []]], mI 0]]]])
theorem m59 : Good G e59 := gr allD g26
def tE : List Ent := e47 :: e48 :: e49 :: e50 :: e51 :: e52 :: e53 :: e54 :: e55 :: e56 :: e57 :: e58 :: e59 :: tD
theorem allE : ∀ e ∈ tE, Good G e := all_cons m47 (all_cons m48 (all_cons m49 (all_cons m50 (all_cons m51 (all_cons m52 (all_cons m53 (all_cons m54 (all_cons m55 (all_cons m56 (all_cons m57 (all_cons m58 (all_cons m59 (allD)))))))))))))
end Go.Lift.K
namespace Go.Lift.K
open Go Go.Lift T1
set_option maxRecDepth 100000
def e60 : Ent := (41, [mA [mL [mA [mS [102, 105, 110], mI 1, mI 0]], mL [mA [mS [102, 105, 110], mL [mA [mS [110, 105, 108], mL []]], mL []], mA [mS [102, 105, 110], mL [mA [mS [99, 111, 110, 115], mL [mS [104], mS [116]]]], mL [mA [mS [102, 105, 110], mL [mS [116]]]]]]], mA [mS [102, 105, 110], mL [mA [mL [mA [mS [99, 111, 110, 115], mL [mI 1, mI 0]], mA [mS [97], mL []]], mI 0]]]], [mI 0])
theorem m60 : Good G e60 := gr allE g41
def e61 : Ent := (41, [mA [mL [mA [mS [102, 105, 110], mI 1, mI 1]], mL [mA [mS [102, 105, 110], mL [mA [mS [110, 105, 108], mL []]], mL []], mA [mS [102, 105, 110], mL [mA [mS [99, 111, 110, 115], mL [mS [104], mS [116]]]], mL [mA [mS [102, 105, 110], mL [mS [116]]]]]]], mA [mS [102, 105, 110], mL [mA [mL [mA [mS [99, 111, 110, 115], mL [mI 1, mI 0]], mA [mS [97], mL []]], mI 0]]]], [mI 0])
theorem m61 : Good G e61 := gr allE g41
def e62 : Ent := (41, [mA [mL [mA [mS [115, 97, 109, 101], mI 2, mI 1]], mL [mA [mS [115, 97, 109, 101], mL [mA [mS [99, 111, 110, 115], mL [mS [97], mS [98]]], mA [mS [99, 111, 110, 115], mL [mS [101], mS [102]]]], mL [mA [mS [115, 97, 109, 101], mL [mS [97], mS [101]]], mA [mS [115, 97, 109, 101], mL [mS [98], mS [102]]]]], mA [mS [115, 97, 109, 101], mL [mA [mS [97], mL []], mA [mS [97], mL []]], mL []]]], mA [mS [115, 97, 109, 101], mL [mA [mL [mA [mS [99, 111, 110, 115], mL [mI 1, mI 0]], mA [mS [97], mL []]], mI 0], mA [mL [mA [mS [99, 111, 110, 115], mL [mI 1, mI 2]], mA [mS [97], mL []], mA [mS [99, 111, 110, 115], mL [mI 1, mI 0]]], mI 0]]]], [mI 0])
theorem m62 : Good G e62 := gr allE g41
def e63 : Ent := (57, [mA [mS [102, 105, 110], mL [mA [mL [mA [mS [99, 111, 110, 115], mL [mI 1, mI 0]], mA [mS [97], mL []]], mI 0]]]], [mA [mS [102, 105, 110], mS [99, 111, 110, 115, 44, 49, 44, 48, 59, 97, 59], mS [], mS []]])
theorem m63 : Good G e63 := gr allE g57
def e64 : Ent := (57, [mA [mS [115, 97, 109, 101], mL [mA [mL [mA [mS [97], mL []]], mI 0], mA [mL [mA [mS [97], mL []]], mI 0]]]], [mA [mS [115, 97, 109, 101], mS [97, 59], mS [97, 59], mS []]])
theorem m64 : Good G e64 := gr allE g57
def e65 : Ent := (57, [mA [mS [115, 97, 109, 101], mL [mA [mL [mA [mS [99, 111, 110, 115], mL [mI 1, mI 0]], mA [mS [97], mL []]], mI 0], mA [mL [mA [mS [99, 111, 110, 115], mL [mI 1, mI 0]], mA [mS [97], mL []]], mI 0]]]], [mA [mS [115, 97, 109, 101], mS [99, 111, 110, 115, 44, 49, 44, 48, 59, 97, 59], mS [99, 111, 110, 115, 44, 49, 44, 48, 59, 97, 59], mS []]])
theorem m65 : Good G e65 := gr allE g57
def tF : List Ent := e60 :: e61 :: e62 :: e63 :: e64 :: e65 :: tE
theorem allF : ∀ e ∈ tF, Good G e := all_cons m60 (all_cons m61 (all_cons m62 (all_cons m63 (all_cons m64 (all_cons m65 (allE))))))
end Go.Lift.K
namespace Go.Lift.K
open Go Go.Lift T1
set_option maxRecDepth 100000
def e66 : Ent := (29, [mA [mL [mA [mS [102, 105, 110], mI 1, mI 0]], mL [mA [mS [102, 105, 110], mL [mA [mS [110, 105, 108], mL []]], mL []], mA [mS [102, 105, 110], mL [mA [mS [99, 111, 110, 115], mL [mS [104], mS [116]]]], mL [mA [mS [102, 105, 110], mL [mS [116]]]]]]], mA [mS [102, 105, 110], mL [mA [mL [mA [mS [99, 111, 110, 115], mL [mI 1, mI 0]], mA [mS [97], mL []]], mI 0]]]], [mB false, mI 0])
theorem m66 : Good G e66 := gr allF g29
def e67 : Ent := (29, [mA [mL [mA [mS [102, 105, 110], mI 1, mI 1]], mL [mA [mS [102, 105, 110], mL [mA [mS [110, 105, 108], mL []]], mL []], mA [mS [102, 105, 110], mL [mA [mS [99, 111, 110, 115], mL [mS [104], mS [116]]]], mL [mA [mS [102, 105, 110], mL [mS [116]]]]]]], mA [mS [102, 105, 110], mL [mA [mL [mA [mS [99, 111, 110, 115], mL [mI 1, mI 0]], mA [mS [97], mL []]], mI 0]]]], [mB true, mI 0])
theorem m67 : Good G e67 := gr allF g29
def e68 : Ent := (29, [mA [mL [mA [mS [115, 97, 109, 101], mI 2, mI 1]], mL [mA [mS [115, 97, 109, 101], mL [mA [mS [99, 111, 110, 115], mL [mS [97], mS [98]]], mA [mS [99, 111, 110, 115], mL [mS [101], mS [102]]]], mL [mA [mS [115, 97, 109, 101], mL [mS [97], mS [101]]], mA [mS [115, 97, 109, 101], mL [mS [98], mS [102]]]]], mA [mS [115, 97, 109, 101], mL [mA [mS [97], mL []], mA [mS [97], mL []]], mL []]]], mA [mS [115, 97, 109, 101], mL [mA [mL [mA [mS [99, 111, 110, 115], mL [mI 1, mI 0]], mA [mS [97], mL []]], mI 0], mA [mL [mA [mS [99, 111, 110, 115], mL [mI 1, mI 2]], mA [mS [97], mL []], mA [mS [99, 111, 110, 115], mL [mI 1, mI 0]]], mI 0]]]], [mB true, mI 0])
theorem m68 : Good G e68 := gr allF g29
def e69 : Ent := (7, [mA [mL [mA [mS [115, 97, 109, 101], mI 2, mI 1]], mL [mA [mS [115, 97, 109, 101], mL [mA [mS [99, 111, 110, 115], mL [mS [97], mS [98]]], mA [mS [99, 111, 110, 115], mL [mS [101], mS [102]]]], mL [mA [mS [115, 97, 109, 101], mL [mS [97], mS [101]]], mA [mS [115, 97, 109, 101], mL [mS [98], mS [102]]]]], mA [mS [115, 97, 109, 101], mL [mA [mS [97], mL []], mA [mS [97], mL []]], mL []]]], mA [mS [115, 97, 109, 101], mL [mA [mL [mA [mS [99, 111, 110, 115], mL [mI 1, mI 0]], mA [mS [97], mL []]], mI 0], mA [mL [mA [mS [99, 111, 110, 115], mL [mI 1, mI 2]], mA [mS [97], mL []], mA [mS [99, 111, 110, 115], mL [mI 1, mI 0]]], mI 0]]]], [mL [mA [mS [115, 97, 109, 101], mL [mA [mL [mA [mS [99, 111, 110, 115], mL [mI 1, mI 0]], mA [mS [97], mL []]], mI 0], mA [mL [mA [mS [99, 111, 110, 115], mL [mI 1, mI 0]], mA [mS [97], mL []]], mI 0]]], mA [mS [115, 97, 109, 101], mL [mA [mL [mA [mS [97], mL []]], mI 0], mA [mL [mA [mS [97], mL []]], mI 0]]]], mI 0])
theorem m69 : Good G e69 := gr allF g7
def e70 : Ent := (32, [mA [mL [mA [mS [102, 105, 110], mI 1, mI 1]], mL [mA [mS [102, 105, 110], mL [mA [mS [110, 105, 108], mL []]], mL []], mA [mS [102, 105, 110], mL [mA [mS [99, 111, 110, 115], mL [mS [104], mS [116]]]], mL [mA [mS [102, 105, 110], mL [mS [116]]]]]]], mA [mS [102, 105, 110], mL [mA [mL [mA [mS [99, 111, 110, 115], mL [mI 1, mI 0]], mA [mS [97], mL []]], mI 0]]]], [mA [mL [mA [mS [102, 105, 110], mL [mA [mL [mA [mS [99, 111, 110, 115], mL [mI 1, mI 0]], mA [mS [97], mL []]], mI 0]]]], mL [mI 1]], mI 0])
theorem m70 : Good G e70 := gr allF g32
def e71 : Ent := (33, [mA [mL [mA [mS [102, 105, 110], mI 1, mI 0]], mL [mA [mS [102, 105, 110], mL [mA [mS [110, 105, 108], mL []]], mL []], mA [mS [102, 105, 110], mL [mA [mS [99, 111, 110, 115], mL [mS [104], mS [116]]]], mL [mA [mS [102, 105, 110], mL [mS [116]]]]]]], mA [mS [102, 105, 110], mL [mA [mL [mA [mS [99, 111, 110, 115], mL [mI 1, mI 0]], mA [mS [97], mL []]], mI 0]]]], [mA [mL [mA [mS [102, 105, 110], mL [mA [mL [mA [mS [99, 111, 110, 115], mL [mI 1, mI 0]], mA [mS [97], mL []]], mI 0]]]], mL [mL [mI (-1), mI 0]]], mI 0])
theorem m71 : Good G e71 := gr allF g33
def tH : List Ent := e66 :: e67 :: e68 :: e69 :: e70 :: e71 :: tF
theorem allH : ∀ e ∈ tH, Good G e := all_cons m66 (all_cons m67 (all_cons m68 (all_cons m69 (all_cons m70 (all_cons m71 (allF))))))
end Go.Lift.K
namespace Go.Lift.K
open Go Go.Lift T1
set_option maxRecDepth 100000
theorem zmq : Good T1.G (12, [], [.bool true]) := z63 (T := tH) allH (m := 1000) (n := 100) T1.g12 rfl rfl (by kernel_rfl)
theorem zvo (st : St) : z06 T1.G (.fn 12 [] []) [] st = some (.d (.bool true), st) := by
 obtain ⟨F, h1, h2, h3, h4⟩ := zmq
 exact zd6 (ds := []) (rs := [.bool true]) h1 h2 h3 h4
end Go.Lift.K
