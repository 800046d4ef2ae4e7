/- Part B9 of the proof. -/
import Derived.Test.YtedmfhgagnfbnaaGreatDoorB8
import Derived.Test.YtedmfhgagnfbnaaGreatDoorA7
set_option linter.all false
namespace Go.Lift.K
open Go Go.Lift
set_option maxRecDepth 100000
theorem live_ok {e : List V} {s : List (Nat × Obj)} {lw : Nat} {r q : RulesT} {g : GoalT} {ty : TypeT} {names : List (List Nat)} {kids : List Int} {name : List Nat} {rank : Int} (hr : fine r) (hq : fine q) (hg : g.ok) (ht : ty.ok) (hns : SsOk names) (hks : LOk kids) (sr : rulesSmall r) (sq : rulesSmall q) (hAw : ∀ st, callW G (.fn 9 [] []) [] st = some (.d (.bool true), st))
    (w_len : e.length = 249) (w_4 : e.getD 4 .undef = .d (.sl (names.map D.str))) (w_5 : e.getD 5 .undef = .d (.sl (kids.map (D.int .i64)))) (w_6 : e.getD 6 .undef = .d (.str name)) (w_7 : e.getD 7 .undef = .d (.int .i64 rank))
    (w_8 : e.getD 8 .undef = .ptr 0 0) (w_9 : e.getD 9 .undef = .ptr 1 0) (w_10 : e.getD 10 .undef = .ptr 2 0) (w_11 : e.getD 11 .undef = .ptr 3 0)
    (w_17 : e.getD 17 .undef = .ptr 46 0) (w_18 : e.getD 18 .undef = .ptr 47 0) (w_19 : e.getD 19 .undef = .ptr 48 0) (w_20 : e.getD 20 .undef = .ptr 49 0)
    (w_21 : e.getD 21 .undef = .ptr 59 0) (w_23 : e.getD 23 .undef = .ptr 68 0) (w_25 : e.getD 25 .undef = .ptr 77 0) (w_27 : e.getD 27 .undef = .ptr 87 0)
    (w_22 : e.getD 22 .undef = .d (.int .i64 (specTyped ty).2)) (w_24 : e.getD 24 .undef = .d (.int .i64 (specEq names kids).2)) (w_26 : e.getD 26 .undef = .d (.int .i64 (specJoin r q).2)) (w_28 : e.getD 28 .undef = .d (.int .i64 (specRanked r name rank).2))
    (w_c0 : sget s 0 = some (.cells [.d (.sl (r.rels.map RelT.d)), .d (.sl (r.clauses.map ClauseT.d))])) (w_c1 : sget s 1 = some (.cells [.d (.sl (q.rels.map RelT.d)), .d (.sl (q.clauses.map ClauseT.d))]))
    (w_c2 : sget s 2 = some (.cells [.d (.str g.rel), .d (.sl (g.args.map TreeT.d))])) (w_c3 : sget s 3 = some (.cells [.d (.sl (ty.sorts.map SortT.d)), .d (.int .i64 ty.start)]))
    (w_d0 : sget s 46 = some (.cells [.d (.sl (r.rels.map RelT.d)), .d (.sl (r.clauses.map ClauseT.d))])) (w_d1 : sget s 47 = some (.cells [.d (.sl (q.rels.map RelT.d)), .d (.sl (q.clauses.map ClauseT.d))]))
    (w_d2 : sget s 48 = some (.cells [.d (.str g.rel), .d (.sl (g.args.map TreeT.d))])) (w_d3 : sget s 49 = some (.cells [.d (.sl (ty.sorts.map SortT.d)), .d (.int .i64 ty.start)]))
    (w_e1 : sget s 59 = some (.cells [.d (.sl ((specTyped ty).1.rels.map RelT.d)), .d (.sl ((specTyped ty).1.clauses.map ClauseT.d))])) (w_e2 : sget s 68 = some (.cells [.d (.sl ((specEq names kids).1.rels.map RelT.d)), .d (.sl ((specEq names kids).1.clauses.map ClauseT.d))])) (w_e3 : sget s 77 = some (.cells [.d (.sl ((specJoin r q).1.rels.map RelT.d)), .d (.sl ((specJoin r q).1.clauses.map ClauseT.d))])) (w_e4 : sget s 87 = some (.cells [.d (.sl ((specRanked r name rank).1.rels.map RelT.d)), .d (.sl ((specRanked r name rank).1.clauses.map ClauseT.d))])) :
    PC (evalG (callW G) roundsW none T1.q3_110 e { s := s, next := 90, low := lw }) (RP [.t 16] [.bool true]) .mk := by
  have hx0 : ∀ a b : V, [a, b][0]? = some a := fun _ _ => rfl
  have hx1 : ∀ a b : V, [a, b][1]? = some b := fun _ _ => rfl
  obtain ⟨R1, hR1⟩ : ∃ R : IC, R = T1.q3_115 := ⟨_, rfl⟩
  delta T1.q3_110
  rw [← hR1]
  simp only [w_len, w_20, w_d3, ↓LA, LB, simprocAttr]
  refine pv_post (ptyped_ok ht) ?_
  rintro v1 ⟨s1, nx1, lw1⟩ ⟨a1, b1, rfl, hn1, hf1, p1, q1⟩
  simp only at hn1 hf1 p1 q1
  have hk1 := p1.cell
  have hl1 := q1.cell
  have ho1 : ∀ j, j < 95 → sget s1 j = sget s j := fun j hj => hf1 j (by omega)
  have w_c0 := (ho1 0 (by omega)).trans w_c0
  have w_c1 := (ho1 1 (by omega)).trans w_c1
  have w_c2 := (ho1 2 (by omega)).trans w_c2
  have w_c3 := (ho1 3 (by omega)).trans w_c3
  have w_d0 := (ho1 46 (by omega)).trans w_d0
  have w_d1 := (ho1 47 (by omega)).trans w_d1
  have w_d2 := (ho1 48 (by omega)).trans w_d2
  have w_d3 := (ho1 49 (by omega)).trans w_d3
  have w_e1 := (ho1 59 (by omega)).trans w_e1
  have w_e2 := (ho1 68 (by omega)).trans w_e2
  have w_e3 := (ho1 77 (by omega)).trans w_e3
  have w_e4 := (ho1 87 (by omega)).trans w_e4
  have hz140 : (nx1 = 40) = False := by simp; omega
  have hz141 : (nx1 = 41) = False := by simp; omega
  simp only [hk1.1, hl1.1, hx0, hx1, w_len, ↓LA, LB, simprocAttr]
  obtain ⟨R2, hR2⟩ : ∃ R : IC, R = T1.q3_121 := ⟨_, rfl⟩
  rw [hR1]
  delta T1.q3_115
  rw [← hR2]
  simp only [w_len, w_4, w_5, ↓LA, LB, simprocAttr]
  refine pv_post (peq_ok hns hks) ?_
  rintro v2 ⟨s2, nx2, lw2⟩ ⟨a2, b2, rfl, hn2, hf2, p2, q2⟩
  simp only at hn2 hf2 p2 q2
  have hk2 := p2.cell
  have hl2 := q2.cell
  have ho2 : ∀ j, j < 95 → sget s2 j = sget s1 j := fun j hj => (hf2 j (by omega)).trans (sget_cons_ne (by omega))
  have hg2 : ∀ j, 95 < j → j < nx1 → sget s2 j = sget s1 j := fun j h1 h2 => (hf2 j (by omega)).trans (sget_cons_ne (by omega))
  have w_c0 := (ho2 0 (by omega)).trans w_c0
  have w_c1 := (ho2 1 (by omega)).trans w_c1
  have w_c2 := (ho2 2 (by omega)).trans w_c2
  have w_c3 := (ho2 3 (by omega)).trans w_c3
  have w_d0 := (ho2 46 (by omega)).trans w_d0
  have w_d1 := (ho2 47 (by omega)).trans w_d1
  have w_d2 := (ho2 48 (by omega)).trans w_d2
  have w_d3 := (ho2 49 (by omega)).trans w_d3
  have w_e1 := (ho2 59 (by omega)).trans w_e1
  have w_e2 := (ho2 68 (by omega)).trans w_e2
  have w_e3 := (ho2 77 (by omega)).trans w_e3
  have w_e4 := (ho2 87 (by omega)).trans w_e4
  have w_f1 : sget s2 (95) = some (.cells [a1, b1]) := (hf2 (95) (by omega)).trans sget_cons_eq
  have p1 := p1.frame (s' := s2) (fun j hj => hg2 j (by have := hj.1; omega) (by have := hj.2; omega))
  have q1 := q1.frame (s' := s2) (fun j hj => hg2 j (by have := hj.1; omega) (by have := hj.2; omega))
  have hz240 : (nx2 = 40) = False := by simp; omega
  simp only [hk2.1, hl2.1, hx0, hx1, w_len, ↓LA, LB, simprocAttr]
  obtain ⟨R3, hR3⟩ : ∃ R : IC, R = T1.q3_127 := ⟨_, rfl⟩
  rw [hR2]
  delta T1.q3_121
  rw [← hR3]
  simp only [hz140, hz141, w_len, w_17, w_18, w_d0, w_d1, ↓LA, LB, simprocAttr]
  refine pv_post (pjoin_ok hr.1 hq.1 sr sq) ?_
  rintro v3 ⟨s3, nx3, lw3⟩ ⟨a3, b3, rfl, hn3, hf3, p3, q3⟩
  simp only at hn3 hf3 p3 q3
  have hk3 := p3.cell
  have hl3 := q3.cell
  have ho3 : ∀ j, j < nx1 + 6 → sget s3 j = sget s2 j := fun j hj => (hf3 j (by omega)).trans (sget_cons_ne (by omega))
  have hg3 : ∀ j, nx1 + 6 < j → j < nx2 → sget s3 j = sget s2 j := fun j h1 h2 => (hf3 j (by omega)).trans (sget_cons_ne (by omega))
  have w_c0 := (ho3 0 (by omega)).trans w_c0
  have w_c1 := (ho3 1 (by omega)).trans w_c1
  have w_c2 := (ho3 2 (by omega)).trans w_c2
  have w_c3 := (ho3 3 (by omega)).trans w_c3
  have w_d0 := (ho3 46 (by omega)).trans w_d0
  have w_d1 := (ho3 47 (by omega)).trans w_d1
  have w_d2 := (ho3 48 (by omega)).trans w_d2
  have w_d3 := (ho3 49 (by omega)).trans w_d3
  have w_e1 := (ho3 59 (by omega)).trans w_e1
  have w_e2 := (ho3 68 (by omega)).trans w_e2
  have w_e3 := (ho3 77 (by omega)).trans w_e3
  have w_e4 := (ho3 87 (by omega)).trans w_e4
  have w_f1 : sget s3 (95) = some (.cells [a1, b1]) := (ho3 (95) (by omega)).trans w_f1
  have p1 := p1.frame (s' := s3) (fun j hj => ho3 j (by have := hj.2; omega))
  have q1 := q1.frame (s' := s3) (fun j hj => ho3 j (by have := hj.2; omega))
  have w_f2 : sget s3 (nx1 + 6) = some (.cells [a2, b2]) := (hf3 (nx1 + 6) (by omega)).trans sget_cons_eq
  have p2 := p2.frame (s' := s3) (fun j hj => hg3 j (by have := hj.1; omega) (by have := hj.2; omega))
  have q2 := q2.frame (s' := s3) (fun j hj => hg3 j (by have := hj.1; omega) (by have := hj.2; omega))
  simp only [hk3.1, hl3.1, hx0, hx1, w_len, ↓LA, LB, simprocAttr]
  obtain ⟨R4, hR4⟩ : ∃ R : IC, R = T1.q3_133 := ⟨_, rfl⟩
  rw [hR3]
  delta T1.q3_127
  rw [← hR4]
  simp only [hz240, w_len, w_6, w_7, w_17, w_d0, ↓LA, LB, simprocAttr]
  refine pv_post (pranked_ok hr.1 sr) ?_
  rintro v4 ⟨s4, nx4, lw4⟩ ⟨a4, b4, rfl, hn4, hf4, p4, q4⟩
  simp only at hn4 hf4 p4 q4
  have hk4 := p4.cell
  have hl4 := q4.cell
  have ho4 : ∀ j, j < nx2 + 6 → sget s4 j = sget s3 j := fun j hj => (hf4 j (by omega)).trans (sget_cons_ne (by omega))
  have hg4 : ∀ j, nx2 + 6 < j → j < nx3 → sget s4 j = sget s3 j := fun j h1 h2 => (hf4 j (by omega)).trans (sget_cons_ne (by omega))
  have w_c0 := (ho4 0 (by omega)).trans w_c0
  have w_c1 := (ho4 1 (by omega)).trans w_c1
  have w_c2 := (ho4 2 (by omega)).trans w_c2
  have w_c3 := (ho4 3 (by omega)).trans w_c3
  have w_d0 := (ho4 46 (by omega)).trans w_d0
  have w_d1 := (ho4 47 (by omega)).trans w_d1
  have w_d2 := (ho4 48 (by omega)).trans w_d2
  have w_d3 := (ho4 49 (by omega)).trans w_d3
  have w_e1 := (ho4 59 (by omega)).trans w_e1
  have w_e2 := (ho4 68 (by omega)).trans w_e2
  have w_e3 := (ho4 77 (by omega)).trans w_e3
  have w_e4 := (ho4 87 (by omega)).trans w_e4
  have w_f1 : sget s4 (95) = some (.cells [a1, b1]) := (ho4 (95) (by omega)).trans w_f1
  have p1 := p1.frame (s' := s4) (fun j hj => ho4 j (by have := hj.2; omega))
  have q1 := q1.frame (s' := s4) (fun j hj => ho4 j (by have := hj.2; omega))
  have w_f2 : sget s4 (nx1 + 6) = some (.cells [a2, b2]) := (ho4 (nx1 + 6) (by omega)).trans w_f2
  have p2 := p2.frame (s' := s4) (fun j hj => ho4 j (by have := hj.2; omega))
  have q2 := q2.frame (s' := s4) (fun j hj => ho4 j (by have := hj.2; omega))
  have w_f3 : sget s4 (nx2 + 6) = some (.cells [a3, b3]) := (hf4 (nx2 + 6) (by omega)).trans sget_cons_eq
  have p3 := p3.frame (s' := s4) (fun j hj => hg4 j (by have := hj.1; omega) (by have := hj.2; omega))
  have q3 := q3.frame (s' := s4) (fun j hj => hg4 j (by have := hj.1; omega) (by have := hj.2; omega))
  simp only [hk4.1, hl4.1, hx0, hx1, w_len, ↓LA, LB, simprocAttr]
  rw [hR4]
  refine mid_ok (x1 := (specTyped ty).1) (x2 := (specEq names kids).1) (x3 := (specJoin r q).1) (x4 := (specRanked r name rank).1) (n1 := (specTyped ty).2) (n2 := (specEq names kids).2) (n3 := (specJoin r q).2) (n4 := (specRanked r name rank).2) hr hq hg ht hAw (fine_typed ht) (fine_eq hns) (fine_join hr hq) (fine_ranked hr) ?_ ?_ ?_ ?_ ?_ ?_ ?_ ?_ ?_ ?_ ?_ ?_ ?_ ?_ ?_ ?_ ?_ ?_ ?_ ?_ ?_ ?_ ?_ ?_ ?_ ((sget_cons_ne (by omega)).trans w_c0) ((sget_cons_ne (by omega)).trans w_c1) ((sget_cons_ne (by omega)).trans w_c2) ((sget_cons_ne (by omega)).trans w_c3) ((sget_cons_ne (by omega)).trans w_d0) ((sget_cons_ne (by omega)).trans w_d1) ((sget_cons_ne (by omega)).trans w_d2) ((sget_cons_ne (by omega)).trans w_d3) ((sget_cons_ne (by omega)).trans w_e1) ((sget_cons_ne (by omega)).trans w_e2) ((sget_cons_ne (by omega)).trans w_e3) ((sget_cons_ne (by omega)).trans w_e4) (by omega) ((sget_cons_ne (by omega)).trans w_f1) ((sget_cons_ne (by omega)).trans w_f2) ((sget_cons_ne (by omega)).trans w_f3) sget_cons_eq (by omega) (by omega) (by omega)
    ((p1.frame (fun j hj => sget_cons_ne (by have := hj.1; have := hj.2; omega))).mono fun j hj => ⟨by have := hj.1; omega, by have := hj.2; omega⟩) ((q1.frame (fun j hj => sget_cons_ne (by have := hj.1; have := hj.2; omega))).mono fun j hj => ⟨by have := hj.1; omega, by have := hj.2; omega⟩) ((p2.frame (fun j hj => sget_cons_ne (by have := hj.1; have := hj.2; omega))).mono fun j hj => ⟨by have := hj.1; omega, by have := hj.2; omega⟩) ((q2.frame (fun j hj => sget_cons_ne (by have := hj.1; have := hj.2; omega))).mono fun j hj => ⟨by have := hj.1; omega, by have := hj.2; omega⟩) ((p3.frame (fun j hj => sget_cons_ne (by have := hj.1; have := hj.2; omega))).mono fun j hj => ⟨by have := hj.1; omega, by have := hj.2; omega⟩) ((q3.frame (fun j hj => sget_cons_ne (by have := hj.1; have := hj.2; omega))).mono fun j hj => ⟨by have := hj.1; omega, by have := hj.2; omega⟩) ((p4.frame (fun j hj => sget_cons_ne (by have := hj.1; have := hj.2; omega))).mono fun j hj => ⟨by have := hj.1; omega, by have := hj.2; omega⟩) ((q4.frame (fun j hj => sget_cons_ne (by have := hj.1; have := hj.2; omega))).mono fun j hj => ⟨by have := hj.1; omega, by have := hj.2; omega⟩) <;> simp only [w_len, w_8, w_9, w_10, w_11, w_17, w_18, w_19, w_20, w_21, w_22, w_23, w_24, w_25, w_26, w_27, w_28, LB, simprocAttr]
end Go.Lift.K
namespace Go.Lift.K
open Go Go.Lift
set_option maxRecDepth 100000
theorem own_part {e : List V} {s : List (Nat × Obj)} {lw : Nat} {r q : RulesT} {g : GoalT} {ty : TypeT} {names : List (List Nat)} {kids : List Int} {name : List Nat} {rank : Int} (hr : fine r) (hq : fine q) (hg : g.ok) (ht : ty.ok) (hns : SsOk names) (hks : LOk kids) (sr : rulesSmall r) (sq : rulesSmall q) (sg : g.args.length ≤ 1000000 ∧ ∀ x ∈ g.args, treeSmall x) (sty : typeSmall ty) (hAw : ∀ st, callW G (.fn 9 [] []) [] st = some (.d (.bool true), st))
    (w_len : e.length = 249) (w_4 : e.getD 4 .undef = .d (.sl (names.map D.str))) (w_5 : e.getD 5 .undef = .d (.sl (kids.map (D.int .i64)))) (w_6 : e.getD 6 .undef = .d (.str name)) (w_7 : e.getD 7 .undef = .d (.int .i64 rank))
    (w_8 : e.getD 8 .undef = .ptr 0 0) (w_9 : e.getD 9 .undef = .ptr 1 0) (w_10 : e.getD 10 .undef = .ptr 2 0) (w_11 : e.getD 11 .undef = .ptr 3 0)
    (w_c0 : sget s 0 = some (.cells [.d (.sl (r.rels.map RelT.d)), .d (.sl (r.clauses.map ClauseT.d))])) (w_c1 : sget s 1 = some (.cells [.d (.sl (q.rels.map RelT.d)), .d (.sl (q.clauses.map ClauseT.d))]))
    (w_c2 : sget s 2 = some (.cells [.d (.str g.rel), .d (.sl (g.args.map TreeT.d))])) (w_c3 : sget s 3 = some (.cells [.d (.sl (ty.sorts.map SortT.d)), .d (.int .i64 ty.start)])) :
    PC (evalG (callW G) roundsW none T1.q3_77 e { s := s, next := 38, low := lw }) (RP [.t 16] [.bool true]) .mk := by
  have hO1 : ∀ st, callW G (.fn 10 [] []) [.d (.agg [.sl (r.rels.map RelT.d), .sl (r.clauses.map ClauseT.d)])] st = some (.d (.agg [.sl (r.rels.map RelT.d), .sl (r.clauses.map ClauseT.d)]), st) := fun st => own_ok sr st
  have hO2 : ∀ st, callW G (.fn 10 [] []) [.d (.agg [.sl (q.rels.map RelT.d), .sl (q.clauses.map ClauseT.d)])] st = some (.d (.agg [.sl (q.rels.map RelT.d), .sl (q.clauses.map ClauseT.d)]), st) := fun st => own_ok sq st
  have hO3 : ∀ st, callW G (.fn 11 [] []) [.d (.agg [.str g.rel, .sl (g.args.map TreeT.d)])] st = some (.d (.agg [.str g.rel, .sl (g.args.map TreeT.d)]), st) := fun st => ownGoal_ok sg.1 sg.2 st
  have hO4 : ∀ st, callW G (.fn 12 [] []) [.d (.agg [.sl (ty.sorts.map SortT.d), .int .i64 ty.start])] st = some (.d (.agg [.sl (ty.sorts.map SortT.d), .int .i64 ty.start]), st) := fun st => ownType_ok sty st
  have hT1 : ∀ st, callW G (.fn 13 [] []) [.d (.agg [.sl (ty.sorts.map SortT.d), .int .i64 ty.start])] st = some (.tup [.d (.agg [.sl ((specTyped ty).1.rels.map RelT.d), .sl ((specTyped ty).1.clauses.map ClauseT.d)]), .d (.int .i64 (specTyped ty).2)], st) := fun st => typed12_ok ht st
  have hT2 : ∀ st, callW G (.fn 14 [] []) [.d (.sl (names.map D.str)), .d (.sl (kids.map (D.int .i64)))] st = some (.tup [.d (.agg [.sl ((specEq names kids).1.rels.map RelT.d), .sl ((specEq names kids).1.clauses.map ClauseT.d)]), .d (.int .i64 (specEq names kids).2)], st) := fun st => eq12_ok hns hks st
  have hT3 : ∀ st, callW G (.fn 15 [] []) [.d (.agg [.sl (r.rels.map RelT.d), .sl (r.clauses.map ClauseT.d)]), .d (.agg [.sl (q.rels.map RelT.d), .sl (q.clauses.map ClauseT.d)])] st = some (.tup [.d (.agg [.sl ((specJoin r q).1.rels.map RelT.d), .sl ((specJoin r q).1.clauses.map ClauseT.d)]), .d (.int .i64 (specJoin r q).2)], st) := fun st => join12_ok hr.1 hq.1 st
  have hT4 : ∀ st, callW G (.fn 16 [] []) [.d (.agg [.sl (r.rels.map RelT.d), .sl (r.clauses.map ClauseT.d)]), .d (.str name), .d (.int .i64 rank)] st = some (.tup [.d (.agg [.sl ((specRanked r name rank).1.rels.map RelT.d), .sl ((specRanked r name rank).1.clauses.map ClauseT.d)]), .d (.int .i64 (specRanked r name rank).2)], st) := fun st => ranked12_ok hr.1 st
  have hx0 : ∀ a b : V, [a, b][0]? = some a := fun _ _ => rfl
  have hx1 : ∀ a b : V, [a, b][1]? = some b := fun _ _ => rfl
  obtain ⟨R, hR⟩ : ∃ R : IC, R = T1.q3_110 := ⟨_, rfl⟩
  delta T1.q3_77
  rw [← hR]
  simp only [hO1, hO2, hO3, hO4, hT1, hT2, hT3, hT4, hx0, hx1, w_len, w_4, w_5, w_6, w_7, w_8, w_9, w_10, w_11, w_c0, w_c1, w_c2, w_c3, ↓LA, LB, simprocAttr]
  rw [hR]
  refine live_ok (name := name) (rank := rank) hr hq hg ht hns hks sr sq hAw ?_ ?_ ?_ ?_ ?_ ?_ ?_ ?_ ?_ ?_ ?_ ?_ ?_ ?_ ?_ ?_ ?_ ?_ ?_ ?_ ?_ ?_ ?_ ?_ ?_ ?_ ?_ ?_ ?_ ?_ ?_ ?_ ?_ <;> simp only [w_len, w_4, w_5, w_6, w_7, w_8, w_9, w_10, w_11, w_c0, w_c1, w_c2, w_c3, LB, simprocAttr]
theorem relChecks1_ok {x : List Nat} (st : St) : callW G (.fn 8 [] []) [.d (.str x)] st = some (.d (.bool (longS x)), st) := by
  refine pure_pc (ds := [.str x]) (rs := [.bool (longS x)]) T1.g8 rfl rfl (fun e w_len harg => ?_) st
  have w_len : e.length = 6 := w_len
  have w_0 := harg 0 (by simp)
  clear harg
  simp only [List.map_cons, List.map_nil, List.getD_cons_zero] at w_0
  simp only [T1.i8, w_len, w_0, ↓LA, LB, simprocAttr]
  exact rq1 (by rfl)
theorem relChecks_ok {r q : RulesT} {g : GoalT} {ty : TypeT} {names : List (List Nat)} {kids : List Int} {name : List Nat} {rank : Int} (hr : r.ok) (hq : q.ok) (hg : g.ok) (ht : ty.ok) (hns : SsOk names) (hks : LOk kids) (hnm : SOk name) (hAw : ∀ st, callW G (.fn 9 [] []) [] st = some (.d (.bool true), st)) (st : St) :
    callW G (.fn 3 [] []) [.d r.d, .d q.d, .d g.d, .d ty.d, .d (.sl (names.map D.str)), .d (.sl (kids.map (D.int .i64))), .d (.str name), .d (.int .i64 rank)] st = some (.d (.bool true), st) := by
  have hB1 : ∀ st, callW G (.fn 4 [] []) [.d (.agg [.sl (r.rels.map RelT.d), .sl (r.clauses.map ClauseT.d)])] st = some (.d (.bool (bigRules r)), st) := fun st => big_ok hr st
  have hB2 : ∀ st, callW G (.fn 4 [] []) [.d (.agg [.sl (q.rels.map RelT.d), .sl (q.clauses.map ClauseT.d)])] st = some (.d (.bool (bigRules q)), st) := fun st => big_ok hq st
  have hB3 : ∀ st, callW G (.fn 5 [] []) [.d (.agg [.str g.rel, .sl (g.args.map TreeT.d)])] st = some (.d (.bool (bigGoal g)), st) := fun st => bigGoal_ok hg st
  have hB4 : ∀ st, callW G (.fn 6 [] []) [.d (.agg [.sl (ty.sorts.map SortT.d), .int .i64 ty.start])] st = some (.d (.bool (greatTy ty)), st) := fun st => greatTy_ok ht st
  have hB5 : ∀ st, callW G (.fn 7 [] []) [.d (.sl (names.map D.str)), .fn 8 [] []] st = some (.d (.bool (names.any longS)), st) := fun st => cnS (p := longS) hns.1 (fun s nx => tellsT_pure (fun a ha st => relChecks1_ok st)) st
  obtain ⟨R, hR⟩ : ∃ R : IC, R = T1.q3_77 := ⟨_, rfl⟩
  refine pure_pc (ds := [r.d, q.d, g.d, ty.d, .sl (names.map D.str), .sl (kids.map (D.int .i64)), .str name, .int .i64 rank]) (rs := [.bool true]) T1.g3 rfl rfl (fun e w_len harg => ?_) st
  have w_len : e.length = 249 := w_len
  have w_0 := harg 0 (by simp)
  have w_1 := harg 1 (by simp)
  have w_2 := harg 2 (by simp)
  have w_3 := harg 3 (by simp)
  have w_4 := harg 4 (by simp)
  have w_5 := harg 5 (by simp)
  have w_6 := harg 6 (by simp)
  have w_7 := harg 7 (by simp)
  clear harg
  simp only [List.map_cons, List.map_nil, List.getD_cons_zero, List.getD_cons_succ] at w_0 w_1 w_2 w_3 w_4 w_5 w_6 w_7
  simp only [RulesT.d, GoalT.d, TypeT.d] at w_0 w_1 w_2 w_3
  unfold T1.i3
  rw [← hR]
  cases h1 : bigRules r with
  | true =>
    simp only [hB1, h1, hAw, w_len, w_0, w_1, w_2, w_3, ↓LA, LB, simprocAttr]
    exact rq1 rfl
  | false =>
  cases h2 : bigRules q with
  | true =>
    simp only [hB1, hB2, h1, h2, hAw, w_len, w_0, w_1, w_2, w_3, ↓LA, LB, simprocAttr]
    exact rq1 rfl
  | false =>
  cases h3 : bigGoal g with
  | true =>
    simp only [hB1, hB2, hB3, h1, h2, h3, hAw, w_len, w_0, w_1, w_2, w_3, ↓LA, LB, simprocAttr]
    exact rq1 rfl
  | false =>
  cases h4 : greatTy ty with
  | true =>
    simp only [hB1, hB2, hB3, hB4, h1, h2, h3, h4, hAw, w_len, w_0, w_1, w_2, w_3, ↓LA, LB, simprocAttr]
    exact rq1 rfl
  | false =>
  by_cases h5 : (30 : Int) < names.length
  · simp only [hB1, hB2, hB3, hB4, h1, h2, h3, h4, h5, hAw, w_len, w_0, w_1, w_2, w_3, w_4, ↓LA, LB, simprocAttr]
    exact rq1 rfl
  by_cases h6 : (30 : Int) < kids.length
  · simp only [hB1, hB2, hB3, hB4, h1, h2, h3, h4, h5, h6, hAw, w_len, w_0, w_1, w_2, w_3, w_4, w_5, ↓LA, LB, simprocAttr]
    exact rq1 rfl
  by_cases h7 : (40 : Int) < name.length
  · simp only [hB1, hB2, hB3, hB4, h1, h2, h3, h4, h5, h6, h7, hAw, w_len, w_0, w_1, w_2, w_3, w_4, w_5, w_6, ↓LA, LB, simprocAttr]
    exact rq1 rfl
  cases h8 : names.any longS with
  | true =>
    simp only [hB1, hB2, hB3, hB4, hB5, h1, h2, h3, h4, h5, h6, h7, h8, hAw, w_len, w_0, w_1, w_2, w_3, w_4, w_5, w_6, ↓LA, LB, simprocAttr]
    exact rq1 rfl
  | false =>
  simp only [hB1, hB2, hB3, hB4, hB5, h1, h2, h3, h4, h5, h6, h7, h8, w_len, w_0, w_1, w_2, w_3, w_4, w_5, w_6, ↓LA, LB, simprocAttr]
  rw [hR]
  have s1 := small_rules h1
  have s2 := small_rules h2
  refine own_part (g := g) (name := name) (rank := rank) ⟨hr, s1.2⟩ ⟨hq, s2.2⟩ hg ht hns hks s1.1 s2.1 (small_goal h3) (small_type h4) hAw ?_ ?_ ?_ ?_ ?_ ?_ ?_ ?_ ?_ ?_ ?_ ?_ ?_ <;> simp only [w_len, w_4, w_5, w_6, w_7, LB, simprocAttr]
end Go.Lift.K
