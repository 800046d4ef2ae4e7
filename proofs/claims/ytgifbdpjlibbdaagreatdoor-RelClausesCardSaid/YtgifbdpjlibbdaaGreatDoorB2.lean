/- Part B2 of the proof. -/
import Derived.Test.YtgifbdpjlibbdaaGreatDoorB1
import Derived.Test.YtgifbdpjlibbdaaGreatDoorA6
import Derived.KernelRfl
set_option linter.all false
namespace Go.Lift.T1
open Go Go.Lift
set_option maxRecDepth 100000
theorem g3 : G 3 = some i3 := by kernel_rfl
theorem g4 : G 4 = some i4 := by kernel_rfl
theorem g5 : G 5 = some i5 := by kernel_rfl
theorem g6 : G 6 = some i6 := by kernel_rfl
theorem g7 : G 7 = some i7 := by kernel_rfl
theorem g8 : G 8 = some i8 := by kernel_rfl
theorem g9 : G 9 = some i9 := by kernel_rfl
theorem g10 : G 10 = some i10 := by kernel_rfl
theorem g11 : G 11 = some i11 := by kernel_rfl
theorem g12 : G 12 = some i12 := by kernel_rfl
theorem g13 : G 13 = some i13 := by kernel_rfl
theorem g14 : G 14 = some i14 := by kernel_rfl
theorem g15 : G 15 = some i15 := by kernel_rfl
theorem g16 : G 16 = some i16 := by kernel_rfl
theorem g17 : G 17 = some i17 := by kernel_rfl
theorem g18 : G 18 = some i18 := by kernel_rfl
theorem g19 : G 19 = some i19 := by kernel_rfl
theorem g20 : G 20 = some (z5c 67) := by kernel_rfl
theorem g21 : G 21 = some i21 := by kernel_rfl
theorem g22 : G 22 = some (z5c 68) := by kernel_rfl
theorem g23 : G 23 = some i23 := by kernel_rfl
theorem g24 : G 24 = some (z5c 69) := by kernel_rfl
theorem g25 : G 25 = some i25 := by kernel_rfl
theorem g26 : G 26 = some (z5c 70) := by kernel_rfl
theorem g27 : G 27 = some i27 := by kernel_rfl
theorem g28 : G 28 = some (z5c 71) := by kernel_rfl
theorem g29 : G 29 = some i29 := by kernel_rfl
theorem g30 : G 30 = some (z5c 72) := by kernel_rfl
theorem g31 : G 31 = some i31 := by kernel_rfl
theorem g33 : G 33 = some i33 := by kernel_rfl
theorem g36 : G 36 = some i36 := by kernel_rfl
theorem g37 : G 37 = some i37 := by kernel_rfl
theorem g38 : G 38 = some i38 := by kernel_rfl
theorem g39 : G 39 = some (zur 1 false) := by kernel_rfl
theorem g41 : G 41 = some i41 := by kernel_rfl
theorem g42 : G 42 = some i42 := by kernel_rfl
theorem g43 : G 43 = some i43 := by kernel_rfl
theorem g44 : G 44 = some i44 := by kernel_rfl
theorem g45 : G 45 = some i45 := by kernel_rfl
theorem g46 : G 46 = some i46 := by kernel_rfl
theorem g47 : G 47 = some i47 := by kernel_rfl
theorem g48 : G 48 = some i48 := by kernel_rfl
theorem g49 : G 49 = some i49 := by kernel_rfl
theorem g50 : G 50 = some i50 := by kernel_rfl
theorem g51 : G 51 = some i51 := by kernel_rfl
theorem g52 : G 52 = some (zeq 2 true [(.d (.str [])), .nilS]) := by kernel_rfl
theorem g53 : G 53 = some i53 := by kernel_rfl
theorem g54 : G 54 = some (zeq 2 true [.nilS, (.d (.int .i64 0))]) := by kernel_rfl
theorem g55 : G 55 = some i55 := by kernel_rfl
theorem g56 : G 56 = some i56 := by kernel_rfl
theorem g57 : G 57 = some i57 := by kernel_rfl
theorem g58 : G 58 = some i58 := by kernel_rfl
theorem g59 : G 59 = some (zrb 3 [.s, .i .i64, .i .i64]) := by kernel_rfl
theorem g60 : G 60 = some (zeq 3 true [(.d (.str [])), .nilS, .nilS]) := by kernel_rfl
theorem g61 : G 61 = some i61 := by kernel_rfl
theorem g62 : G 62 = some (zeq 2 true [(.d (.str [])), .nilS]) := by kernel_rfl
theorem g63 : G 63 = some i63 := by kernel_rfl
theorem g64 : G 64 = some (zur 1 false) := by kernel_rfl
theorem g65 : G 65 = some (zeq 2 true [(.d (.str [])), .nilS]) := by kernel_rfl
theorem g66 : G 66 = some i66 := by kernel_rfl
theorem g67 : G 67 = some (z4k 1 false) := by kernel_rfl
theorem g68 : G 68 = some (z4k 3 true) := by kernel_rfl
theorem g69 : G 69 = some (z4k 3 true) := by kernel_rfl
theorem g70 : G 70 = some (z4k 2 true) := by kernel_rfl
theorem g71 : G 71 = some (z4k 2 true) := by kernel_rfl
theorem g72 : G 72 = some (z4k 2 true) := by kernel_rfl
theorem g73 : G 73 = some (z5c 104) := by kernel_rfl
theorem g74 : G 74 = some i74 := by kernel_rfl
theorem g78 : G 78 = some (zm2 110) := by kernel_rfl
theorem g88 : G 88 = some i88 := by kernel_rfl
theorem g89 : G 89 = some i89 := by kernel_rfl
theorem g90 : G 90 = some i90 := by kernel_rfl
theorem g91 : G 91 = some i91 := by kernel_rfl
theorem g92 : G 92 = some i92 := by kernel_rfl
theorem g93 : G 93 = some i93 := by kernel_rfl
theorem g94 : G 94 = some i94 := by kernel_rfl
theorem g95 : G 95 = some i95 := by kernel_rfl
theorem g96 : G 96 = some i96 := by kernel_rfl
theorem g97 : G 97 = some i97 := by kernel_rfl
theorem g98 : G 98 = some i98 := by kernel_rfl
theorem g99 : G 99 = some i99 := by kernel_rfl
theorem g100 : G 100 = some (zeq 2 true [(.d (.str [])), .nilS]) := by kernel_rfl
theorem g101 : G 101 = some i101 := by kernel_rfl
theorem g102 : G 102 = some i102 := by kernel_rfl
theorem g103 : G 103 = some i103 := by kernel_rfl
theorem g104 : G 104 = some (z4k 2 true) := by kernel_rfl
theorem g110 : G 110 = some (zsu 137 138 139 140 141 142 143) := by kernel_rfl
theorem g115 : G 115 = some i115 := by kernel_rfl
theorem g116 : G 116 = some i116 := by kernel_rfl
theorem g117 : G 117 = some i117 := by kernel_rfl
theorem g118 : G 118 = some i118 := by kernel_rfl
theorem g119 : G 119 = some i119 := by kernel_rfl
theorem g120 : G 120 = some i120 := by kernel_rfl
theorem g121 : G 121 = some i121 := by kernel_rfl
theorem g122 : G 122 = some i122 := by kernel_rfl
theorem g123 : G 123 = some i123 := by kernel_rfl
theorem g124 : G 124 = some i124 := by kernel_rfl
theorem g125 : G 125 = some i125 := by kernel_rfl
theorem g126 : G 126 = some i126 := by kernel_rfl
theorem g127 : G 127 = some i127 := by kernel_rfl
theorem g128 : G 128 = some i128 := by kernel_rfl
theorem g130 : G 130 = some i130 := by kernel_rfl
theorem g131 : G 131 = some i131 := by kernel_rfl
theorem g134 : G 134 = some i134 := by kernel_rfl
theorem g139 : G 139 = some (ztx) := by kernel_rfl
theorem g140 : G 140 = some (zsv 165) := by kernel_rfl
theorem g141 : G 141 = some (zss 165) := by kernel_rfl
theorem g144 : G 144 = some i144 := by kernel_rfl
theorem g145 : G 145 = some i145 := by kernel_rfl
theorem g146 : G 146 = some i146 := by kernel_rfl
theorem g147 : G 147 = some i147 := by kernel_rfl
theorem g148 : G 148 = some i148 := by kernel_rfl
theorem g149 : G 149 = some (zig 73 178) := by kernel_rfl
theorem g150 : G 150 = some i150 := by kernel_rfl
theorem g151 : G 151 = some i151 := by kernel_rfl
theorem g152 : G 152 = some (zm2 110) := by kernel_rfl
theorem g153 : G 153 = some i153 := by kernel_rfl
theorem g154 : G 154 = some (zig 179 180) := by kernel_rfl
theorem g155 : G 155 = some i155 := by kernel_rfl
theorem g156 : G 156 = some i156 := by kernel_rfl
theorem g159 : G 159 = some i159 := by kernel_rfl
theorem g160 : G 160 = some i160 := by kernel_rfl
theorem g161 : G 161 = some i161 := by kernel_rfl
theorem g162 : G 162 = some i162 := by kernel_rfl
theorem g163 : G 163 = some i163 := by kernel_rfl
theorem g165 : G 165 = some (zn2) := by kernel_rfl
theorem g169 : G 169 = some i169 := by kernel_rfl
theorem g170 : G 170 = some i170 := by kernel_rfl
theorem g171 : G 171 = some (zig 26 187) := by kernel_rfl
theorem g172 : G 172 = some i172 := by kernel_rfl
theorem g173 : G 173 = some (zig 20 188) := by kernel_rfl
theorem g174 : G 174 = some i174 := by kernel_rfl
theorem g175 : G 175 = some i175 := by kernel_rfl
theorem g176 : G 176 = some i176 := by kernel_rfl
theorem g177 : G 177 = some (zyv 189) := by kernel_rfl
theorem g178 : G 178 = some (evC 2 true) := by kernel_rfl
theorem g179 : G 179 = some (z5c 190) := by kernel_rfl
theorem g180 : G 180 = some (evC1) := by kernel_rfl
theorem g183 : G 183 = some i183 := by kernel_rfl
theorem g187 : G 187 = some (evC 2 true) := by kernel_rfl
theorem g188 : G 188 = some (evC1) := by kernel_rfl
theorem g189 : G 189 = some (zu9) := by kernel_rfl
theorem g190 : G 190 = some (z4k 1 false) := by kernel_rfl
end Go.Lift.T1
namespace Go.Lift.K
open Go Go.Lift
set_option maxRecDepth 100000
abbrev G := T1.G
structure RelT where
 name : List Nat
 arity : Int
 rank : Int
def RelT.d (x : RelT) : D := .agg [.str x.name, .int .i64 x.arity, .int .i64 x.rank]
structure PatT where
 name : List Nat
 vars : List (List Nat)
def PatT.d (x : PatT) : D := .agg [.str x.name, .sl (x.vars.map D.str)]
structure ClauseT where
 rel : List Nat
 head : List PatT
 body : List PatT
def ClauseT.d (x : ClauseT) : D := .agg [.str x.rel, .sl (x.head.map PatT.d), .sl (x.body.map PatT.d)]
structure RulesT where
 rels : List RelT
 clauses : List ClauseT
def RulesT.d (x : RulesT) : D := .agg [.sl (x.rels.map RelT.d), .sl (x.clauses.map ClauseT.d)]
structure NodeT where
 name : List Nat
 kids : List Int
def NodeT.d (x : NodeT) : D := .agg [.str x.name, .sl (x.kids.map (D.int .i64))]
structure TreeT where
 nodes : List NodeT
 root : Int
def TreeT.d (x : TreeT) : D := .agg [.sl (x.nodes.map NodeT.d), .int .i64 x.root]
structure GoalT where
 rel : List Nat
 args : List TreeT
def GoalT.d (x : GoalT) : D := .agg [.str x.rel, .sl (x.args.map TreeT.d)]
structure SortT where
 rank : Int
 alts : List NodeT
structure TypeT where
 sorts : List SortT
 start : Int
def SOk (x : List Nat) : Prop := (∀ c ∈ x, c < 256) ∧ x.length ≤ 9223372036854775807
def LOk {α : Type} (l : List α) : Prop := l.length ≤ 9223372036854775807
def IOk (n : Int) : Prop := -9223372036854775808 ≤ n ∧ n ≤ 9223372036854775807
def SsOk (l : List (List Nat)) : Prop := LOk l ∧ ∀ v ∈ l, SOk v
def RelT.ok (x : RelT) : Prop := SOk x.name ∧ IOk x.arity ∧ IOk x.rank
def PatT.ok (x : PatT) : Prop := SOk x.name ∧ SsOk x.vars
def zdm (l : List PatT) : Prop := LOk l ∧ ∀ x ∈ l, x.ok
def ClauseT.ok (x : ClauseT) : Prop := SOk x.rel ∧ zdm x.head ∧ zdm x.body
def zx4 (l : List RelT) : Prop := LOk l ∧ ∀ x ∈ l, x.ok
def RulesT.ok (x : RulesT) : Prop := zx4 x.rels ∧ LOk x.clauses ∧ ∀ c ∈ x.clauses, c.ok
def NodeT.ok (x : NodeT) : Prop := SOk x.name ∧ LOk x.kids ∧ ∀ k ∈ x.kids, IOk k
def zsk (l : List NodeT) : Prop := LOk l ∧ ∀ x ∈ l, x.ok
def TreeT.ok (x : TreeT) : Prop := zsk x.nodes ∧ IOk x.root
def GoalT.ok (x : GoalT) : Prop := SOk x.rel ∧ LOk x.args ∧ ∀ t ∈ x.args, t.ok
theorem zby {x : RelT} : Elt 3 true x.d := .inl ⟨rfl, _, rfl, rfl, rfl⟩
theorem z4l {x : PatT} : Elt 2 true x.d := .inl ⟨rfl, _, rfl, rfl, rfl⟩
theorem z6n {x : ClauseT} : Elt 3 true x.d := .inl ⟨rfl, _, rfl, rfl, rfl⟩
theorem z3p {x : NodeT} : Elt 2 true x.d := .inl ⟨rfl, _, rfl, rfl, rfl⟩
theorem z1k {x : TreeT} : Elt 2 true x.d := .inl ⟨rfl, _, rfl, rfl, rfl⟩
theorem z6m {x : GoalT} : Elt 2 true x.d := .inl ⟨rfl, _, rfl, rfl, rfl⟩
theorem z1p {l : List RelT} {i : Nat} (hi : i < l.length) : z0k 3 (.d (.sl (l.map RelT.d))) (i : Int) = some (.dptr [.str l[i].name, .int .i64 l[i].arity, .int .i64 l[i].rank]) := z3e hi rfl
theorem z0t {l : List PatT} {i : Nat} (hi : i < l.length) : z0k 2 (.d (.sl (l.map PatT.d))) (i : Int) = some (.dptr [.str l[i].name, .sl (l[i].vars.map D.str)]) := z3e hi rfl
theorem z2a {l : List ClauseT} {i : Nat} (hi : i < l.length) : z0k 3 (.d (.sl (l.map ClauseT.d))) (i : Int) = some (.dptr [.str l[i].rel, .sl (l[i].head.map PatT.d), .sl (l[i].body.map PatT.d)]) := z3e hi rfl
theorem z0j {l : List NodeT} {i : Nat} (hi : i < l.length) : z0k 2 (.d (.sl (l.map NodeT.d))) (i : Int) = some (.dptr [.str l[i].name, .sl (l[i].kids.map (D.int .i64))]) := z3e hi rfl
theorem z19 {l : List TreeT} {i : Nat} (hi : i < l.length) : z0k 2 (.d (.sl (l.map TreeT.d))) (i : Int) = some (.dptr [.sl (l[i].nodes.map NodeT.d), .int .i64 l[i].root]) := z3e hi rfl
def isR (name : List Nat) (x : RelT) : Bool := decide (x.name = name)
def z4y (l : List RelT) (name : List Nat) : Int := idxL (isR name) l
theorem zjh {a b c : Int} (st : St) : z05 G (.fn 89 [] []) [.d (.int .i64 a), .d (.int .i64 b), .d (.int .i64 c)] st = some (.d (.bool (decide (a < b) || decide (c < a))), st) := by
 refine z33 (ds := [.int .i64 a, .int .i64 b, .int .i64 c]) (rs := [.bool (decide (a < b) || decide (c < a))]) T1.g89 rfl rfl ?_ st
 simp only [T1.i89, ↓YA, YB, z0i, simprocAttr]
 by_cases h : a < b
 ·simp only [h, YB, simprocAttr]
  exact ⟨trivial, _, rfl, by simp [z7g]⟩
 ·simp only [h, YB, simprocAttr]
  exact ⟨trivial, _, rfl, by simp [z7g]⟩
theorem zec {a b c : Int} (st : St) : z05 G (.fn 117 [] []) [.d (.int .i64 a), .d (.int .i64 b), .d (.int .i64 c)] st = some (.d (.bool (decide (a < b) || decide (c < a))), st) := by
 refine z33 (ds := [.int .i64 a, .int .i64 b, .int .i64 c]) (rs := [.bool (decide (a < b) || decide (c < a))]) T1.g117 rfl rfl ?_ st
 simp only [T1.i117, ↓YA, YB, z0i, simprocAttr]
 by_cases h : a < b
 ·simp only [h, YB, simprocAttr]
  exact ⟨trivial, _, rfl, by simp [z7g]⟩
 ·simp only [h, YB, simprocAttr]
  exact ⟨trivial, _, rfl, by simp [z7g]⟩
theorem zas {r : RulesT} {name : List Nat} (hr : LOk r.rels) (st : St) : z05 G (.fn 45 [] []) [.d r.d, .d (.str name)] st = some (.d (.int .i64 (z4y r.rels name)), st) := by
 unfold LOk at hr
 refine z33 (ds := [r.d, .str name]) (rs := [.int .i64 (z4y r.rels name)]) T1.g45 rfl rfl ?_ st
 simp only [T1.i45, RulesT.d, ↓YA, YB, z0i, simprocAttr]
 refine z1j (fun e0 s0 m env st => ∃ (i nx : Nat) (t4 t6 t7 t8 t9 t10 t11 t12 t13 t14 t15 t16 t17 t18 t19 t20 t21 : V), m = r.rels.length - i ∧ (i ≤ r.rels.length) ∧ (∀ x ∈ r.rels.take i, isR name x = false) ∧ env = putE [(5, .d (.int .i64 i)), (4, t4), (6, t6), (7, t7), (8, t8), (9, t9), (10, t10), (11, t11), (12, t12), (13, t13), (14, t14), (15, t15), (16, t16), (17, t17), (18, t18), (19, t19), (20, t20), (21, t21)] e0 ∧ st = { s := s0.s, next := nx, low := s0.low }) ?_ (r.rels.length) (by
  simp only [putE, List.set]
  exact ⟨0, _, _, _, _, _, _, _, _, _, _, _, _, _, _, _, _, _, _, rfl, by omega, by simp, rfl, rfl⟩)
 rintro m env st ⟨i, nx, t4, t6, t7, t8, t9, t10, t11, t12, t13, t14, t15, t16, t17, t18, t19, t20, t21, hm, a_0, a_1, henv, rfl⟩
 simp only [putE, List.set] at henv
 subst henv
 simp only [↓YA, YB, z0i, simprocAttr]
 by_cases hlt : i < r.rels.length
 ·simp only [hlt, z1p hlt, ↓YA, YB, z0i, simprocAttr]
  by_cases hn : r.rels[i].name = name
  ·simp only [hn, YB, simprocAttr]
   exact ⟨trivial, _, rfl, by rw [z4y, zqa hlt a_1 (by simp [isR, hn])]; rfl⟩
  ·simp only [hn, z02 hlt (by omega), YB, simprocAttr]
   exact ⟨_, by omega, i + 1, _, _, _, _, _, _, _, _, _, _, _, _, _, _, _, _, _, _, rfl, by omega, z23 hlt a_1 (by simp [isR, hn]), rfl, rfl⟩
 ·simp only [hlt, YB, simprocAttr]
  exact ⟨trivial, _, rfl, by rw [z4y, zqb (z2s hlt a_1)]; rfl⟩
theorem zk1 {c : Nat} : isAz c = true ↔ ¬ (c : Int) < 97 ∧ ¬ (122 : Int) < c := by
 simp only [isAz, Bool.and_eq_true, Nat.ble_eq]
 omega
theorem z58 {x : List Nat} (hx : SOk x) (st : St) : z05 G (.fn 115 [] []) [.d (.str x)] st = some (.d (.bool (z0x x)), st) := by
 have hl := hx.2
 refine z33 (ds := [.str x]) (rs := [.bool (z0x x)]) T1.g115 rfl rfl ?_ st
 simp only [T1.i115, zec, ↓YA, YB, z0i, simprocAttr]
 by_cases h : (1 : Int) ≤ x.length ∧ (x.length : Int) ≤ 8
 ·have h1 : ¬ ((x.length : Int) < 1) := by omega
  have h2 : ¬ ((8 : Int) < x.length) := by omega
  have h3 : 0 < x.length := by omega
  have h4 : x.length ≤ 8 := by omega
  simp only [h1, h2, Bool.or_false, YB, z0i, simprocAttr]
  refine z1j (fun e0 s0 m env st => ∃ (i nx : Nat) (t2 t7 t8 t9 t10 t11 t12 t13 t14 t15 t16 t17 t18 t19 t20 t21 t22 : V), m = x.length - i ∧ (i ≤ x.length) ∧ (∀ c ∈ x.take i, isAz c = true) ∧ env = putE [(3, .d (.int .i64 i)), (2, t2), (7, t7), (8, t8), (9, t9), (10, t10), (11, t11), (12, t12), (13, t13), (14, t14), (15, t15), (16, t16), (17, t17), (18, t18), (19, t19), (20, t20), (21, t21), (22, t22)] e0 ∧ st = { s := s0.s, next := nx, low := s0.low }) ?_ (x.length) (by
   simp only [putE, List.set]
   exact ⟨0, _, _, _, _, _, _, _, _, _, _, _, _, _, _, _, _, _, _, rfl, by omega, by simp, rfl, rfl⟩)
  rintro m env st ⟨i, nx, t2, t7, t8, t9, t10, t11, t12, t13, t14, t15, t16, t17, t18, t19, t20, t21, t22, hm, a_0, a_1, henv, rfl⟩
  simp only [putE, List.set] at henv
  subst henv
  simp only [↓YA, YB, z0i, simprocAttr]
  by_cases hlt : i < x.length
  ·cases hz : isAz x[i] with
   | true =>
    obtain ⟨k1, k2⟩ := zk1.1 hz
    simp only [hlt, zbm hlt, k1, k2, z02 hlt (by omega), ↓YA, YB, z0i, simprocAttr]
    exact ⟨_, by omega, i + 1, _, _, _, _, _, _, _, _, _, _, _, _, _, _, _, _, _, _, rfl, by omega, z23 hlt a_1 hz, rfl, rfl⟩
   | false =>
    have hn : z0x x = false := by simp only [z0x, z29 hlt hz, Bool.and_false]
    by_cases k1 : (x[i] : Int) < 97
    ·simp only [hlt, zbm hlt, k1, ↓YA, YB, z0i, simprocAttr]
     exact ⟨trivial, _, rfl, by rw [hn]; rfl⟩
    ·have k2 : (122 : Int) < x[i] := by
      apply Classical.byContradiction
      intro k2
      rw [zk1.2 ⟨k1, k2⟩] at hz
      cases hz
     simp only [hlt, zbm hlt, k1, k2, ↓YA, YB, z0i, simprocAttr]
     exact ⟨trivial, _, rfl, by rw [hn]; rfl⟩
  ·have hn : z0x x = true := by simp only [z0x, h3, h4, List.all_eq_true.2 (z2s hlt a_1), decide_true, Bool.and_self]
   simp only [hlt, YB, simprocAttr]
   exact ⟨trivial, _, rfl, by rw [hn]; rfl⟩
 ·have h1 : (decide ((x.length : Int) < 1) || decide ((8 : Int) < x.length)) = true := by simp; omega
  have hn : z0x x = false := by
   simp only [z0x]
   by_cases h2 : 0 < x.length
   ·have : ¬ x.length ≤ 8 := by omega
    simp [this]
   ·simp [h2]
  simp only [h1, simprocAttr]
  exact ⟨trivial, _, rfl, by rw [hn]; rfl⟩
theorem znc {x : List Nat} (hx : SOk x) (st : St) : z05 G (.fn 110 [] []) [.d (.str x), .d (.str azStr)] st = some (.d (.str ((z4h x).dropWhile isAz)), st) :=
 y22 T1.g110 T1.g139 T1.g140 T1.g141 T1.g165 hx.1 (by have := hx.2; omega) st
theorem zb6 {x : List Nat} (hx : SOk x) (st : St) : z05 G (.fn 78 [] []) [.d (.str x)] st = some (.d (.bool (z0x x)), st) := y07 T1.g78 (znc hx) st
theorem zm4 {x : List Nat} (hx : SOk x) (st : St) : z05 G (.fn 152 [] []) [.d (.str x)] st = some (.d (.bool (z0x x)), st) := y07 T1.g152 (znc hx) st
def z1b (r : RulesT) (i : Nat) (x : RelT) : Int :=
 if z0x x.name = false then 4 else if x.arity < 1 ∨ 3 < x.arity then 2 else if x.rank < 0 ∨ 3 < x.rank then 3 else if z4y r.rels x.name < i then 5 else 0
theorem z6e {p q : Prop} [Decidable p] [Decidable q] : (decide p || decide q) = decide (p ∨ q) := by simp
theorem zio {r : RulesT} (hr : r.ok) {i : Nat} (hi : i < r.rels.length) (st : St) : z05 G (.fn 90 [] []) [.d r.d, .d (.int .i64 i)] st = some (.d (.int .i64 (z1b r i r.rels[i])), st) := by
 have hx := hr.1.2 _ (List.getElem_mem hi)
 have hn : ∀ st, z05 G (.fn 45 [] []) [.d r.d, .d (.str r.rels[i].name)] st = _ := fun st => zas hr.1.1 st
 refine z33 (ds := [r.d, .int .i64 i]) (rs := [.int .i64 (z1b r i r.rels[i])]) T1.g90 rfl rfl ?_ st
 simp only [RulesT.d] at hn
 simp only [T1.i90, RulesT.d, z1p hi, z58 hx.1, zjh, z6e, ↓YA, YB, z0i, simprocAttr]
 cases h1 : z0x r.rels[i].name with
 | false =>
  simp only [YB, simprocAttr]
  exact ⟨trivial, _, rfl, by rw [z1b, if_pos h1]; rfl⟩
 | true =>
  have h1' : ¬ z0x r.rels[i].name = false := by simp [h1]
  simp only [YB, z0i, simprocAttr]
  by_cases h2 : r.rels[i].arity < 1 ∨ 3 < r.rels[i].arity
  ·simp only [h2, YB, simprocAttr]
   exact ⟨trivial, _, rfl, by rw [z1b, if_neg h1', if_pos h2]; rfl⟩
  ·simp only [h2, YB, z0i, simprocAttr]
   by_cases h3 : r.rels[i].rank < 0 ∨ 3 < r.rels[i].rank
   ·simp only [h3, YB, simprocAttr]
    exact ⟨trivial, _, rfl, by rw [z1b, if_neg h1', if_neg h2, if_pos h3]; rfl⟩
   ·simp only [h3, hn, ↓YA, YB, z0i, simprocAttr]
    by_cases h4 : z4y r.rels r.rels[i].name < i
    ·simp only [h4, YB, simprocAttr]
     exact ⟨trivial, _, rfl, by rw [z1b, if_neg h1', if_neg h2, if_neg h3, if_pos h4]; rfl⟩
    ·simp only [h4, YB, simprocAttr]
     exact ⟨trivial, _, rfl, by rw [z1b, if_neg h1', if_neg h2, if_neg h3, if_neg h4]; rfl⟩
end Go.Lift.K
namespace Go.Lift.K
open Go Go.Lift
set_option maxRecDepth 100000
def few (p : PatT) : Bool := decide (p.vars.length ≤ 4) && (!decide (p.name = []) || decide (p.vars.length = 1))
def nmd (p : PatT) : Bool := (decide (p.name = []) || z0x p.name) && p.vars.all z0x
def z39 (head : List PatT) (v : List Nat) : Bool := head.any fun p => p.vars.any fun x => decide (x = v)
def z2p (r : RulesT) (head : List PatT) (a : PatT) : Int := match r.rels.find? (isR a.name) with
 | none => 1
 | some x => if (a.vars.length : Int) ≠ x.arity then 2 else if a.vars.all (z39 head) = false then 6 else 0
def z17 (r : RulesT) (c : ClauseT) : Int := match r.rels.find? (isR c.rel) with
 | none => 1
 | some x => if (c.head.length : Int) ≠ x.arity ∨ (4 : Int) < c.body.length ∨ c.head.all few = false then 2 else if c.head.all nmd = false then 4 else z0p (z2p r c.head) c.body
def z1c (r : RulesT) : Int :=
 if ((r.rels.length : Int) < 1 ∨ (8 : Int) < r.rels.length) ∨ (24 : Int) < r.clauses.length then 2 else
 if zda (fun i => z1b r i (r.rels.getD i ⟨[], 0, 0⟩)) r.rels.length ≠ 0 then zda (fun i => z1b r i (r.rels.getD i ⟨[], 0, 0⟩)) r.rels.length else z0p (z17 r) r.clauses
def inR (n : Nat) (k : Int) : Bool := decide (0 ≤ k) && decide (k < n)
def z0c (t : TreeT) : Int :=
 if ((t.nodes.length : Int) < 1 ∨ (60 : Int) < t.nodes.length) ∨ t.nodes.all (fun x => decide (x.kids.length ≤ 4)) = false then 2 else
 if t.nodes.all (fun x => z0x x.name) = false then 4 else
 if inR t.nodes.length t.root = false ∨ t.nodes.all (fun x => x.kids.all (inR t.nodes.length)) = false then 1 else 0
def z1m (r : RulesT) (g : GoalT) : Int :=
 if z1c r ≠ 0 then z1c r else match r.rels.find? (isR g.rel) with
 | none => 1
 | some x => if (g.args.length : Int) ≠ x.arity then 2 else z0p z0c g.args
theorem zsw {head : List PatT} {v : List Nat} (hh : zdm head) (st : St) : z05 G (.fn 116 [] []) [.d (.sl (head.map PatT.d)), .d (.str v)] st = some (.d (.bool (z39 head v)), st) := by
 have hl := hh.1
 unfold LOk at hl
 refine z33 (ds := [.sl (head.map PatT.d), .str v]) (rs := [.bool (z39 head v)]) T1.g116 rfl rfl ?_ st
 simp only [T1.i116, ↓YA, YB, z0i, simprocAttr]
 refine z1j (fun e0 s0 m env st => ∃ (i nxi : Nat) (t4 t6 t7 t8 t9 t10 t11 t12 t13 t14 t15 t16 t17 t18 t19 t20 t21 t22 t23 t24 t25 t26 t27 t28 t29 t30 t31 t32 : V), m = head.length - i ∧ (i ≤ head.length) ∧ (∀ p ∈ head.take i, (p.vars.any fun x => decide (x = v)) = false) ∧ env = putE [(5, .d (.int .i64 i)), (4, t4), (6, t6), (7, t7), (8, t8), (9, t9), (10, t10), (11, t11), (12, t12), (13, t13), (14, t14), (15, t15), (16, t16), (17, t17), (18, t18), (19, t19), (20, t20), (21, t21), (22, t22), (23, t23), (24, t24), (25, t25), (26, t26), (27, t27), (28, t28), (29, t29), (30, t30), (31, t31), (32, t32)] e0 ∧ st = { s := s0.s, next := nxi, low := s0.low }) ?_ (head.length) (by
  simp only [putE, List.set]
  exact ⟨0, _, _, _, _, _, _, _, _, _, _, _, _, _, _, _, _, _, _, _, _, _, _, _, _, _, _, _, _, _, rfl, by omega, by simp, rfl, rfl⟩)
 rintro m env st ⟨i, nxi, t4, t6, t7, t8, t9, t10, t11, t12, t13, t14, t15, t16, t17, t18, t19, t20, t21, t22, t23, t24, t25, t26, t27, t28, t29, t30, t31, t32, hm, a_0, a_1, henv, rfl⟩
 simp only [putE, List.set] at henv
 subst henv
 simp only [↓YA, YB, z0i, simprocAttr]
 by_cases hlt : i < head.length
 ·simp only [hlt, YB, z0i, simprocAttr]
  have hv := (hh.2 _ (List.getElem_mem hlt)).2.1
  unfold LOk at hv
  refine z1j (fun e0 s0 m env st => ∃ (k nxk : Nat) (t4 t13 t14 t15 t16 t17 t18 t19 t20 t21 t22 t23 t24 t25 t26 t27 t28 t29 t30 t31 t32 : V), m = head[i].vars.length - k ∧ (k ≤ head[i].vars.length) ∧ (∀ x ∈ head[i].vars.take k, ¬ x = v) ∧ env = putE [(6, .d (.int .i64 k)), (4, t4), (13, t13), (14, t14), (15, t15), (16, t16), (17, t17), (18, t18), (19, t19), (20, t20), (21, t21), (22, t22), (23, t23), (24, t24), (25, t25), (26, t26), (27, t27), (28, t28), (29, t29), (30, t30), (31, t31), (32, t32)] e0 ∧ st = { s := s0.s, next := nxk, low := s0.low }) ?_ (head[i].vars.length) (by
   simp only [putE, List.set]
   exact ⟨0, _, _, _, _, _, _, _, _, _, _, _, _, _, _, _, _, _, _, _, _, _, _, rfl, by omega, by simp, rfl, rfl⟩)
  rintro m env st ⟨k, nxk, t4, t13, t14, t15, t16, t17, t18, t19, t20, t21, t22, t23, t24, t25, t26, t27, t28, t29, t30, t31, t32, hm, b_0, b_1, henv, rfl⟩
  simp only [putE, List.set] at henv
  subst henv
  simp only [z0t hlt, ↓YA, YB, z0i, simprocAttr]
  by_cases hk : k < head[i].vars.length
  ·simp only [hk, z1d hk, ↓YA, YB, z0i, simprocAttr]
   by_cases he : head[i].vars[k] = v
   ·have hn : z39 head v = true := zl8 hlt (zl8 hk (by simp [he]))
    simp only [he, YB, simprocAttr]
    exact ⟨trivial, _, rfl, by rw [hn]; rfl⟩
   ·simp only [he, z02 hk (by omega), YB, simprocAttr]
    exact ⟨_, by omega, k + 1, _, _, _, _, _, _, _, _, _, _, _, _, _, _, _, _, _, _, _, _, _, _, rfl, by omega, zfn hk b_1 he, rfl, rfl⟩
  ·simp only [hk, z02 hlt (by omega), YB, simprocAttr]
   exact ⟨_, by omega, i + 1, _, _, _, _, _, _, _, _, _, _, _, _, _, _, _, _, _, _, _, _, _, _, _, _, _, _, _, _, _, rfl, by omega, z23 hlt a_1 (zz8 (zfm hk b_1)), rfl, rfl⟩
 ·have hn : z39 head v = false := zl9 (z2s hlt a_1)
  simp only [hlt, YB, simprocAttr]
  exact ⟨trivial, _, rfl, by rw [hn]; rfl⟩
theorem zng {t : TreeT} (ht : t.ok) (st : St) : z05 G (.fn 92 [] []) [.d t.d] st = some (.d (.int .i64 (z0c t)), st) := by
 have hl := ht.1.1
 unfold LOk at hl
 refine z33 (ds := [t.d]) (rs := [.int .i64 (z0c t)]) T1.g92 rfl rfl ?_ st
 simp only [T1.i92, TreeT.d, zec, z6e, ↓YA, YB, z0i, simprocAttr]
 by_cases h1 : (t.nodes.length : Int) < 1 ∨ (60 : Int) < t.nodes.length
 ·simp only [h1, YB, simprocAttr]
  exact ⟨trivial, _, rfl, by rw [z0c, if_pos (.inl h1)]; rfl⟩
 ·simp only [h1, YB, z0i, simprocAttr]
  refine z1j (fun e0 s0 m env st => ∃ (i nxi : Nat) (t2 t11 t12 t13 t14 t15 t16 t17 t18 t19 t20 t21 t22 t23 t24 t25 : V), m = t.nodes.length - i ∧ (i ≤ t.nodes.length) ∧ (∀ x ∈ t.nodes.take i, x.kids.length ≤ 4) ∧ env = putE [(3, .d (.int .i64 i)), (2, t2), (11, t11), (12, t12), (13, t13), (14, t14), (15, t15), (16, t16), (17, t17), (18, t18), (19, t19), (20, t20), (21, t21), (22, t22), (23, t23), (24, t24), (25, t25)] e0 ∧ st = { s := s0.s, next := nxi, low := s0.low }) ?_ (t.nodes.length) (by
   simp only [putE, List.set]
   exact ⟨0, _, _, _, _, _, _, _, _, _, _, _, _, _, _, _, _, _, rfl, by omega, by simp, rfl, rfl⟩)
  rintro m env st ⟨i, nxi, t2, t11, t12, t13, t14, t15, t16, t17, t18, t19, t20, t21, t22, t23, t24, t25, hm, a_0, a_1, henv, rfl⟩
  simp only [putE, List.set] at henv
  subst henv
  simp only [↓YA, YB, z0i, simprocAttr]
  by_cases hlt : i < t.nodes.length
  ·simp only [hlt, z0j hlt, ↓YA, YB, z0i, simprocAttr]
   by_cases he : (4 : Int) < t.nodes[i].kids.length
   ·simp only [he, YB, simprocAttr]
    have hn : (t.nodes.all fun x => decide (x.kids.length ≤ 4)) = false := z29 hlt (by simp; omega)
    exact ⟨trivial, _, rfl, by rw [z0c, if_pos (.inr hn)]; rfl⟩
   ·simp only [he, z02 hlt (by omega), YB, simprocAttr]
    exact ⟨_, by omega, i + 1, _, _, _, _, _, _, _, _, _, _, _, _, _, _, _, _, _, rfl, by omega, zfn hlt a_1 (by omega), rfl, rfl⟩
  ·have k1 := zz9 (zfm hlt a_1)
   have k1' : ¬ (((t.nodes.length : Int) < 1 ∨ (60 : Int) < t.nodes.length) ∨ t.nodes.all (fun x => decide (x.kids.length ≤ 4)) = false) := fun h => h.elim h1 (by rw [k1]; simp)
   simp only [hlt, YB, z0i, simprocAttr]
   refine z1j (fun e0 s0 m env st => ∃ (j nxj : Nat) (t2 t26 t27 t28 t29 t30 t31 t32 t33 t34 t35 t36 t37 t38 t39 t40 : V), m = t.nodes.length - j ∧ (j ≤ t.nodes.length) ∧ (∀ x ∈ t.nodes.take j, z0x x.name = true) ∧ env = putE [(4, .d (.int .i64 j)), (2, t2), (26, t26), (27, t27), (28, t28), (29, t29), (30, t30), (31, t31), (32, t32), (33, t33), (34, t34), (35, t35), (36, t36), (37, t37), (38, t38), (39, t39), (40, t40)] e0 ∧ st = { s := s0.s, next := nxj, low := s0.low }) ?_ (t.nodes.length) (by
    simp only [putE, List.set]
    exact ⟨0, _, _, _, _, _, _, _, _, _, _, _, _, _, _, _, _, _, rfl, by omega, by simp, rfl, rfl⟩)
   rintro m env st ⟨j, nxj, t2, t26, t27, t28, t29, t30, t31, t32, t33, t34, t35, t36, t37, t38, t39, t40, hm, b_0, b_1, henv, rfl⟩
   simp only [putE, List.set] at henv
   subst henv
   simp only [↓YA, YB, z0i, simprocAttr]
   by_cases hlt : j < t.nodes.length
   ·have hx := ht.1.2 _ (List.getElem_mem hlt)
    simp only [hlt, z0j hlt, z58 hx.1, ↓YA, YB, z0i, simprocAttr]
    cases he : z0x t.nodes[j].name with
    | false =>
     simp only [YB, simprocAttr]
     have hn : (t.nodes.all fun x => z0x x.name) = false := z29 hlt he
     exact ⟨trivial, _, rfl, by rw [z0c, if_neg k1', if_pos hn]; rfl⟩
    | true =>
     simp only [z02 hlt (by omega), YB, simprocAttr]
     exact ⟨_, by omega, j + 1, _, _, _, _, _, _, _, _, _, _, _, _, _, _, _, _, _, rfl, by omega, z23 hlt b_1 he, rfl, rfl⟩
   ·have k2 := List.all_eq_true.2 (z2s hlt b_1)
    have k2' : ¬ (t.nodes.all fun x => z0x x.name) = false := by rw [k2]; simp
    have hpos : 0 < t.nodes.length := by omega
    have hw : IntKind.i64.wrap ((t.nodes.length : Int) - 1) = (t.nodes.length : Int) - 1 := z4u (by omega) (by omega)
    have hin : ∀ k : Int, (k < 0 ∨ (t.nodes.length : Int) - 1 < k) ↔ inR t.nodes.length k = false := fun k => by
     simp only [inR, Bool.and_eq_false_iff, decide_eq_false_iff_not]
     omega
    have hino : ∀ (k : Int) (st : St), z05 G (.fn 117 [] []) [.d (.int .i64 k), .d (.int .i64 0), .d (.int .i64 ((t.nodes.length : Int) - 1))] st = some (.d (.bool (!inR t.nodes.length k)), st) := fun k st => by
     rw [zec, z6e]
     have : decide (k < 0 ∨ (t.nodes.length : Int) - 1 < k) = !inR t.nodes.length k := by
      rw [Bool.eq_iff_iff, decide_eq_true_eq, hin]; simp
     rw [this]
    simp only [hlt, hw, hino, ↓YA, YB, z0i, simprocAttr]
    cases h3 : inR t.nodes.length t.root with
    | false =>
     simp only [YB, simprocAttr]
     exact ⟨trivial, _, rfl, by rw [z0c, if_neg k1', if_neg k2', if_pos (.inl h3)]; rfl⟩
    | true =>
     simp only [YB, z0i, simprocAttr]
     refine z1j (fun e0 s0 m env st => ∃ (a nxa : Nat) (t2 t6 t48 t49 t50 t51 t52 t53 t54 t55 t56 t57 t58 t59 t60 t61 t62 t63 t64 t65 t66 t67 t68 t69 t70 t71 t72 t73 t74 t75 t76 t77 t78 t79 : V), m = t.nodes.length - a ∧ (a ≤ t.nodes.length) ∧ (∀ x ∈ t.nodes.take a, x.kids.all (inR t.nodes.length) = true) ∧ env = putE [(5, .d (.int .i64 a)), (2, t2), (6, t6), (48, t48), (49, t49), (50, t50), (51, t51), (52, t52), (53, t53), (54, t54), (55, t55), (56, t56), (57, t57), (58, t58), (59, t59), (60, t60), (61, t61), (62, t62), (63, t63), (64, t64), (65, t65), (66, t66), (67, t67), (68, t68), (69, t69), (70, t70), (71, t71), (72, t72), (73, t73), (74, t74), (75, t75), (76, t76), (77, t77), (78, t78), (79, t79)] e0 ∧ st = { s := s0.s, next := nxa, low := s0.low }) ?_ (t.nodes.length) (by
      simp only [putE, List.set]
      exact ⟨0, _, _, _, _, _, _, _, _, _, _, _, _, _, _, _, _, _, _, _, _, _, _, _, _, _, _, _, _, _, _, _, _, _, _, _, rfl, by omega, by simp, rfl, rfl⟩)
     rintro m env st ⟨a, nxa, t2, t6, t48, t49, t50, t51, t52, t53, t54, t55, t56, t57, t58, t59, t60, t61, t62, t63, t64, t65, t66, t67, t68, t69, t70, t71, t72, t73, t74, t75, t76, t77, t78, t79, hm, c_0, c_1, henv, rfl⟩
     simp only [putE, List.set] at henv
     subst henv
     simp only [↓YA, YB, z0i, simprocAttr]
     by_cases hlt : a < t.nodes.length
     ·have hx := (ht.1.2 _ (List.getElem_mem hlt)).2.1
      unfold LOk at hx
      simp only [hlt, YB, z0i, simprocAttr]
      refine z1j (fun e0 s0 m env st => ∃ (b nxb : Nat) (t2 t55 t56 t57 t58 t59 t60 t61 t62 t63 t64 t65 t66 t67 t68 t69 t70 t71 t72 t73 t74 t75 t76 t77 t78 t79 : V), m = t.nodes[a].kids.length - b ∧ (b ≤ t.nodes[a].kids.length) ∧ (∀ x ∈ t.nodes[a].kids.take b, inR t.nodes.length x = true) ∧ env = putE [(6, .d (.int .i64 b)), (2, t2), (55, t55), (56, t56), (57, t57), (58, t58), (59, t59), (60, t60), (61, t61), (62, t62), (63, t63), (64, t64), (65, t65), (66, t66), (67, t67), (68, t68), (69, t69), (70, t70), (71, t71), (72, t72), (73, t73), (74, t74), (75, t75), (76, t76), (77, t77), (78, t78), (79, t79)] e0 ∧ st = { s := s0.s, next := nxb, low := s0.low }) ?_ (t.nodes[a].kids.length) (by
       simp only [putE, List.set]
       exact ⟨0, _, _, _, _, _, _, _, _, _, _, _, _, _, _, _, _, _, _, _, _, _, _, _, _, _, _, _, rfl, by omega, by simp, rfl, rfl⟩)
      rintro m env st ⟨b, nxb, t2, t55, t56, t57, t58, t59, t60, t61, t62, t63, t64, t65, t66, t67, t68, t69, t70, t71, t72, t73, t74, t75, t76, t77, t78, t79, hm, d_0, d_1, henv, rfl⟩
      simp only [putE, List.set] at henv
      subst henv
      simp only [z0j hlt, ↓YA, YB, z0i, simprocAttr]
      by_cases hk : b < t.nodes[a].kids.length
      ·simp only [hk, z1a hk, hw, hino, ↓YA, YB, z0i, simprocAttr]
       cases he : inR t.nodes.length t.nodes[a].kids[b] with
       | false =>
        have hn : (t.nodes.all fun x => x.kids.all (inR t.nodes.length)) = false := z29 hlt (z29 hk he)
        simp only [YB, simprocAttr]
        exact ⟨trivial, _, rfl, by rw [z0c, if_neg k1', if_neg k2', if_pos (.inr hn)]; rfl⟩
       | true =>
        simp only [z02 hk (by omega), YB, simprocAttr]
        exact ⟨_, by omega, b + 1, _, _, _, _, _, _, _, _, _, _, _, _, _, _, _, _, _, _, _, _, _, _, _, _, _, _, _, rfl, by omega, z23 hk d_1 he, rfl, rfl⟩
      ·simp only [hk, z02 hlt (by omega), YB, simprocAttr]
       exact ⟨_, by omega, a + 1, _, _, _, _, _, _, _, _, _, _, _, _, _, _, _, _, _, _, _, _, _, _, _, _, _, _, _, _, _, _, _, _, _, _, _, rfl, by omega, z23 hlt c_1 (List.all_eq_true.2 (z2s hk d_1)), rfl, rfl⟩
     ·have k3 := List.all_eq_true.2 (z2s hlt c_1)
      have k3' : ¬ (inR t.nodes.length t.root = false ∨ t.nodes.all (fun x => x.kids.all (inR t.nodes.length)) = false) := by rw [h3, k3]; simp
      simp only [hlt, YB, simprocAttr]
      exact ⟨trivial, _, rfl, by rw [z0c, if_neg k1', if_neg k2', if_neg k3']; rfl⟩
theorem zfd {l : List TreeT} (hl : LOk l) (ht : ∀ t ∈ l, t.ok) (st : St) : z05 G (.fn 46 [] []) [.d (.sl (l.map TreeT.d))] st = some (.d (.int .i64 (z0p z0c l)), st) := by
 unfold LOk at hl
 refine z33 (ds := [.sl (l.map TreeT.d)]) (rs := [.int .i64 (z0p z0c l)]) T1.g46 rfl rfl ?_ st
 simp only [T1.i46, ↓YA, YB, z0i, simprocAttr]
 refine z1j (fun e0 s0 m env st => ∃ (i nxi : Nat) (t2 t4 t5 t6 t7 t8 t9 t10 t11 t12 t13 t14 t15 t16 t17 t18 : V), m = l.length - i ∧ (i ≤ l.length) ∧ (∀ x ∈ l.take i, z0c x = 0) ∧ env = putE [(3, .d (.int .i64 i)), (2, t2), (4, t4), (5, t5), (6, t6), (7, t7), (8, t8), (9, t9), (10, t10), (11, t11), (12, t12), (13, t13), (14, t14), (15, t15), (16, t16), (17, t17), (18, t18)] e0 ∧ st = { s := s0.s, next := nxi, low := s0.low }) ?_ (l.length) (by
  simp only [putE, List.set]
  exact ⟨0, _, _, _, _, _, _, _, _, _, _, _, _, _, _, _, _, _, rfl, by omega, by simp, rfl, rfl⟩)
 rintro m env st ⟨i, nxi, t2, t4, t5, t6, t7, t8, t9, t10, t11, t12, t13, t14, t15, t16, t17, t18, hm, a_0, a_1, henv, rfl⟩
 simp only [putE, List.set] at henv
 subst henv
 simp only [↓YA, YB, z0i, simprocAttr]
 by_cases hlt : i < l.length
 ·have hx := ht _ (List.getElem_mem hlt)
  have hc := fun st => zng hx st
  simp only [TreeT.d] at hc
  simp only [hlt, z19 hlt, hc, ↓YA, YB, z0i, simprocAttr]
  by_cases he : z0c l[i] = 0
  ·simp only [he, z02 hlt (by omega), YB, simprocAttr]
   exact ⟨_, by omega, i + 1, _, _, _, _, _, _, _, _, _, _, _, _, _, _, _, _, _, rfl, by omega, z55 hlt a_1 he, rfl, rfl⟩
  ·simp only [he, YB, simprocAttr]
   exact ⟨trivial, _, rfl, by rw [z1n hlt a_1 he]; rfl⟩
 ·simp only [hlt, YB, simprocAttr]
  exact ⟨trivial, _, rfl, by rw [z1y (z54 hlt a_1)]; rfl⟩
end Go.Lift.K
