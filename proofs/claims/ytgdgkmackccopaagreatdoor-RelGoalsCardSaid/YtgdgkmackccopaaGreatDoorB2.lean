/- Part B2 of the proof. -/
import Derived.Test.YtgdgkmackccopaaGreatDoorB1
import Derived.Test.YtgdgkmackccopaaGreatDoorA6
import Derived.KernelRfl
set_option linter.all false
namespace Go.Lift.T1
open Go Go.Lift
set_option maxRecDepth 100000
theorem g3 : G 3 = some i3 := by kernel_rfl
theorem g4 : G 4 = some i4 := by kernel_rfl
theorem g5 : G 5 = some i5 := by kernel_rfl
theorem g6 : G 6 = some i6 := by kernel_rfl
theorem g7 : G 7 = some i7 := by kernel_rfl
theorem g8 : G 8 = some i8 := by kernel_rfl
theorem g9 : G 9 = some i9 := by kernel_rfl
theorem g10 : G 10 = some i10 := by kernel_rfl
theorem g11 : G 11 = some i11 := by kernel_rfl
theorem g12 : G 12 = some i12 := by kernel_rfl
theorem g13 : G 13 = some i13 := by kernel_rfl
theorem g14 : G 14 = some i14 := by kernel_rfl
theorem g15 : G 15 = some i15 := by kernel_rfl
theorem g16 : G 16 = some i16 := by kernel_rfl
theorem g17 : G 17 = some i17 := by kernel_rfl
theorem g18 : G 18 = some i18 := by kernel_rfl
theorem g19 : G 19 = some (zzr 2 true [.nilS, (.d (.int .i64 0))]) := by kernel_rfl
theorem g20 : G 20 = some i20 := by kernel_rfl
theorem g21 : G 21 = some i21 := by kernel_rfl
theorem g22 : G 22 = some (z46 2 true) := by kernel_rfl
theorem g23 : G 23 = some i23 := by kernel_rfl
theorem g24 : G 24 = some i24 := by kernel_rfl
theorem g25 : G 25 = some i25 := by kernel_rfl
theorem g26 : G 26 = some i26 := by kernel_rfl
theorem g27 : G 27 = some i27 := by kernel_rfl
theorem g29 : G 29 = some i29 := by kernel_rfl
theorem g32 : G 32 = some i32 := by kernel_rfl
theorem g33 : G 33 = some i33 := by kernel_rfl
theorem g36 : G 36 = some i36 := by kernel_rfl
theorem g37 : G 37 = some i37 := by kernel_rfl
theorem g38 : G 38 = some i38 := by kernel_rfl
theorem g39 : G 39 = some i39 := by kernel_rfl
theorem g40 : G 40 = some i40 := by kernel_rfl
theorem g41 : G 41 = some i41 := by kernel_rfl
theorem g42 : G 42 = some i42 := by kernel_rfl
theorem g43 : G 43 = some i43 := by kernel_rfl
theorem g47 : G 47 = some (zlu 73) := by kernel_rfl
theorem g56 : G 56 = some i56 := by kernel_rfl
theorem g57 : G 57 = some i57 := by kernel_rfl
theorem g58 : G 58 = some i58 := by kernel_rfl
theorem g59 : G 59 = some i59 := by kernel_rfl
theorem g60 : G 60 = some i60 := by kernel_rfl
theorem g62 : G 62 = some i62 := by kernel_rfl
theorem g63 : G 63 = some i63 := by kernel_rfl
theorem g64 : G 64 = some i64 := by kernel_rfl
theorem g65 : G 65 = some i65 := by kernel_rfl
theorem g66 : G 66 = some i66 := by kernel_rfl
theorem g67 : G 67 = some i67 := by kernel_rfl
theorem g68 : G 68 = some i68 := by kernel_rfl
theorem g73 : G 73 = some (zsw 100 101 102 103 104 105 106) := by kernel_rfl
theorem g78 : G 78 = some i78 := by kernel_rfl
theorem g79 : G 79 = some i79 := by kernel_rfl
theorem g80 : G 80 = some (z46 3 true) := by kernel_rfl
theorem g81 : G 81 = some i81 := by kernel_rfl
theorem g82 : G 82 = some i82 := by kernel_rfl
theorem g83 : G 83 = some i83 := by kernel_rfl
theorem g86 : G 86 = some i86 := by kernel_rfl
theorem g87 : G 87 = some i87 := by kernel_rfl
theorem g88 : G 88 = some i88 := by kernel_rfl
theorem g89 : G 89 = some i89 := by kernel_rfl
theorem g90 : G 90 = some i90 := by kernel_rfl
theorem g91 : G 91 = some i91 := by kernel_rfl
theorem g92 : G 92 = some i92 := by kernel_rfl
theorem g93 : G 93 = some (zhv 120 121) := by kernel_rfl
theorem g94 : G 94 = some i94 := by kernel_rfl
theorem g95 : G 95 = some i95 := by kernel_rfl
theorem g96 : G 96 = some (zlu 73) := by kernel_rfl
theorem g97 : G 97 = some i97 := by kernel_rfl
theorem g98 : G 98 = some (zhv 122 123) := by kernel_rfl
theorem g102 : G 102 = some (zty) := by kernel_rfl
theorem g103 : G 103 = some (zsx 124) := by kernel_rfl
theorem g104 : G 104 = some (zsv 124) := by kernel_rfl
theorem g107 : G 107 = some i107 := by kernel_rfl
theorem g108 : G 108 = some (z46 2 true) := by kernel_rfl
theorem g111 : G 111 = some i111 := by kernel_rfl
theorem g112 : G 112 = some (zhv 117 129) := by kernel_rfl
theorem g113 : G 113 = some i113 := by kernel_rfl
theorem g114 : G 114 = some (zhv 130 131) := by kernel_rfl
theorem g115 : G 115 = some i115 := by kernel_rfl
theorem g116 : G 116 = some i116 := by kernel_rfl
theorem g117 : G 117 = some (z7r 132) := by kernel_rfl
theorem g118 : G 118 = some i118 := by kernel_rfl
theorem g119 : G 119 = some (y00 133) := by kernel_rfl
theorem g120 : G 120 = some (z7r 134) := by kernel_rfl
theorem g121 : G 121 = some (evC 2 true) := by kernel_rfl
theorem g122 : G 122 = some (z7r 135) := by kernel_rfl
theorem g123 : G 123 = some (evC1) := by kernel_rfl
theorem g124 : G 124 = some (zmr) := by kernel_rfl
theorem g129 : G 129 = some (evC 2 true) := by kernel_rfl
theorem g130 : G 130 = some (z7r 140) := by kernel_rfl
theorem g131 : G 131 = some (evC1) := by kernel_rfl
theorem g132 : G 132 = some (z46 2 true) := by kernel_rfl
theorem g133 : G 133 = some (zuh) := by kernel_rfl
theorem g134 : G 134 = some (z46 2 true) := by kernel_rfl
theorem g135 : G 135 = some (z46 1 false) := by kernel_rfl
theorem g140 : G 140 = some (z46 1 false) := by kernel_rfl
end Go.Lift.T1
namespace Go.Lift.K
open Go Go.Lift
set_option maxRecDepth 100000
abbrev G := T1.G
structure RelT where
 name : List Nat
 arity : Int
 rank : Int
def RelT.d (x : RelT) : D := .agg [.str x.name, .int .i64 x.arity, .int .i64 x.rank]
structure PatT where
 name : List Nat
 vars : List (List Nat)
def PatT.d (x : PatT) : D := .agg [.str x.name, .sl (x.vars.map D.str)]
structure ClauseT where
 rel : List Nat
 head : List PatT
 body : List PatT
def ClauseT.d (x : ClauseT) : D := .agg [.str x.rel, .sl (x.head.map PatT.d), .sl (x.body.map PatT.d)]
structure RulesT where
 rels : List RelT
 clauses : List ClauseT
def RulesT.d (x : RulesT) : D := .agg [.sl (x.rels.map RelT.d), .sl (x.clauses.map ClauseT.d)]
structure NodeT where
 name : List Nat
 kids : List Int
def NodeT.d (x : NodeT) : D := .agg [.str x.name, .sl (x.kids.map (D.int .i64))]
structure TreeT where
 nodes : List NodeT
 root : Int
def TreeT.d (x : TreeT) : D := .agg [.sl (x.nodes.map NodeT.d), .int .i64 x.root]
structure GoalT where
 rel : List Nat
 args : List TreeT
def GoalT.d (x : GoalT) : D := .agg [.str x.rel, .sl (x.args.map TreeT.d)]
structure SortT where
 rank : Int
 alts : List NodeT
structure TypeT where
 sorts : List SortT
 start : Int
def SOk (x : List Nat) : Prop := (∀ c ∈ x, c < 256) ∧ x.length ≤ 9223372036854775807
def LOk {α : Type} (l : List α) : Prop := l.length ≤ 9223372036854775807
def IOk (n : Int) : Prop := -9223372036854775808 ≤ n ∧ n ≤ 9223372036854775807
def SsOk (l : List (List Nat)) : Prop := LOk l ∧ ∀ v ∈ l, SOk v
def RelT.ok (x : RelT) : Prop := SOk x.name ∧ IOk x.arity ∧ IOk x.rank
def PatT.ok (x : PatT) : Prop := SOk x.name ∧ SsOk x.vars
def zsj (l : List PatT) : Prop := LOk l ∧ ∀ x ∈ l, x.ok
def ClauseT.ok (x : ClauseT) : Prop := SOk x.rel ∧ zsj x.head ∧ zsj x.body
def y3f (l : List RelT) : Prop := LOk l ∧ ∀ x ∈ l, x.ok
def RulesT.ok (x : RulesT) : Prop := y3f x.rels ∧ LOk x.clauses ∧ ∀ c ∈ x.clauses, c.ok
def NodeT.ok (x : NodeT) : Prop := SOk x.name ∧ LOk x.kids ∧ ∀ k ∈ x.kids, IOk k
def y0g (l : List NodeT) : Prop := LOk l ∧ ∀ x ∈ l, x.ok
def TreeT.ok (x : TreeT) : Prop := y0g x.nodes ∧ IOk x.root
def GoalT.ok (x : GoalT) : Prop := SOk x.rel ∧ LOk x.args ∧ ∀ t ∈ x.args, t.ok
theorem zhw {x : RelT} : Elt 3 true x.d := .inl ⟨rfl, _, rfl, rfl, rfl⟩
theorem zdz {x : PatT} : Elt 2 true x.d := .inl ⟨rfl, _, rfl, rfl, rfl⟩
theorem zcf {x : ClauseT} : Elt 3 true x.d := .inl ⟨rfl, _, rfl, rfl, rfl⟩
theorem z9b {x : NodeT} : Elt 2 true x.d := .inl ⟨rfl, _, rfl, rfl, rfl⟩
theorem z2n {x : TreeT} : Elt 2 true x.d := .inl ⟨rfl, _, rfl, rfl, rfl⟩
theorem z7p {x : GoalT} : Elt 2 true x.d := .inl ⟨rfl, _, rfl, rfl, rfl⟩
theorem z23 {l : List RelT} {i : Nat} (hi : i < l.length) : z0a 3 (.d (.sl (l.map RelT.d))) (i : Int) = some (.dptr [.str l[i].name, .int .i64 l[i].arity, .int .i64 l[i].rank]) := z24 hi rfl
theorem z4q {l : List PatT} {i : Nat} (hi : i < l.length) : z0a 2 (.d (.sl (l.map PatT.d))) (i : Int) = some (.dptr [.str l[i].name, .sl (l[i].vars.map D.str)]) := z24 hi rfl
theorem z5m {l : List ClauseT} {i : Nat} (hi : i < l.length) : z0a 3 (.d (.sl (l.map ClauseT.d))) (i : Int) = some (.dptr [.str l[i].rel, .sl (l[i].head.map PatT.d), .sl (l[i].body.map PatT.d)]) := z24 hi rfl
theorem z32 {l : List NodeT} {i : Nat} (hi : i < l.length) : z0a 2 (.d (.sl (l.map NodeT.d))) (i : Int) = some (.dptr [.str l[i].name, .sl (l[i].kids.map (D.int .i64))]) := z24 hi rfl
theorem z4p {l : List TreeT} {i : Nat} (hi : i < l.length) : z0a 2 (.d (.sl (l.map TreeT.d))) (i : Int) = some (.dptr [.sl (l[i].nodes.map NodeT.d), .int .i64 l[i].root]) := z24 hi rfl
def isR (name : List Nat) (x : RelT) : Bool := decide (x.name = name)
def z5g (l : List RelT) (name : List Nat) : Int := idxL (isR name) l
theorem zn9 {x : List Nat} (hx : SOk x) (st : St) : z06 G (.fn 73 [] []) [.d (.str x), .d (.str azStr)] st = some (.d (.str ((z3z x).dropWhile isAz)), st) :=
 y3o T1.g73 T1.g102 T1.g103 T1.g104 T1.g124 hx.1 (by have := hx.2; omega) st
theorem za8 {x : List Nat} (hx : SOk x) (st : St) : z06 G (.fn 47 [] []) [.d (.str x)] st = some (.d (.bool (z0z x)), st) := y1p T1.g47 (zn9 hx) st
theorem zlw {x : List Nat} (hx : SOk x) (st : St) : z06 G (.fn 96 [] []) [.d (.str x)] st = some (.d (.bool (z0z x)), st) := y1p T1.g96 (zn9 hx) st
def z1d (r : RulesT) (i : Nat) (x : RelT) : Int :=
 if z0z x.name = false then 4 else if x.arity < 1 ∨ 3 < x.arity then 2 else if x.rank < 0 ∨ 3 < x.rank then 3 else if z5g r.rels x.name < i then 5 else 0
end Go.Lift.K
namespace Go.Lift.K
open Go Go.Lift
set_option maxRecDepth 100000
def few (p : PatT) : Bool := decide (p.vars.length ≤ 4) && (!decide (p.name = []) || decide (p.vars.length = 1))
def nmd (p : PatT) : Bool := (decide (p.name = []) || z0z p.name) && p.vars.all z0z
def z4i (head : List PatT) (v : List Nat) : Bool := head.any fun p => p.vars.any fun x => decide (x = v)
def z2m (r : RulesT) (head : List PatT) (a : PatT) : Int := match r.rels.find? (isR a.name) with
 | none => 1
 | some x => if (a.vars.length : Int) ≠ x.arity then 2 else if a.vars.all (z4i head) = false then 6 else 0
def z19 (r : RulesT) (c : ClauseT) : Int := match r.rels.find? (isR c.rel) with
 | none => 1
 | some x => if (c.head.length : Int) ≠ x.arity ∨ (4 : Int) < c.body.length ∨ c.head.all few = false then 2 else if c.head.all nmd = false then 4 else z0o (z2m r c.head) c.body
def z0v (r : RulesT) : Int :=
 if ((r.rels.length : Int) < 1 ∨ (8 : Int) < r.rels.length) ∨ (24 : Int) < r.clauses.length then 2 else
 if z5f (fun i => z1d r i (r.rels.getD i ⟨[], 0, 0⟩)) r.rels.length ≠ 0 then z5f (fun i => z1d r i (r.rels.getD i ⟨[], 0, 0⟩)) r.rels.length else z0o (z19 r) r.clauses
def inR (n : Nat) (k : Int) : Bool := decide (0 ≤ k) && decide (k < n)
def z0b (t : TreeT) : Int :=
 if ((t.nodes.length : Int) < 1 ∨ (60 : Int) < t.nodes.length) ∨ t.nodes.all (fun x => decide (x.kids.length ≤ 4)) = false then 2 else
 if t.nodes.all (fun x => z0z x.name) = false then 4 else
 if inR t.nodes.length t.root = false ∨ t.nodes.all (fun x => x.kids.all (inR t.nodes.length)) = false then 1 else 0
def z0w (r : RulesT) (g : GoalT) : Int :=
 if z0v r ≠ 0 then z0v r else match r.rels.find? (isR g.rel) with
 | none => 1
 | some x => if (g.args.length : Int) ≠ x.arity then 2 else z0o z0b g.args
end Go.Lift.K
