/- Part B5 of the proof. -/
import Derived.Test.YtedmfhgagnfbnaaGreatDoorB4
import Derived.Test.YtedmfhgagnfbnaaGreatDoorA7
set_option linter.all false
namespace Go.Lift.K
open Go Go.Lift
set_option maxRecDepth 100000
theorem dupI_ok {l : List Int} (hl : l.length ≤ 1000000) (st : St) : callW G (.fn 56 [] []) [.d (.sl (l.map (D.int .i64)))] st = some (.d (.sl (l.map (D.int .i64))), st) := by
  have he : ∀ x ∈ l.map (D.int .i64), Elt 1 false x := fun x hx => by obtain ⟨a, _, rfl⟩ := List.mem_map.1 hx; exact elt_int
  have hA : ∀ s nx lw, sget s 1 = some (.cells []) → opAppend { s := s, next := nx, low := lw } 3 1 false 8 (.arr 1 1 false 0 0) (.d (.sl (l.map (D.int .i64)))) = _ := fun s nx lw h => app_data h he (by simp; omega) (by simp; omega)
  refine pure_pc (ds := [.sl (l.map (D.int .i64))]) (rs := [.sl (l.map (D.int .i64))]) T1.g56 rfl rfl (fun e w_len harg => ?_) st
  have w_len : e.length = 6 := w_len
  have w_0 := harg 0 (by simp)
  clear harg
  simp only [List.map_cons, List.map_nil, List.getD_cons_zero] at w_0
  simp only [T1.i56, hA, w_len, w_0, ↓LA, LB, simprocAttr]
  have hc := cv_arr_data (s := [(3, .cells ((l.map (D.int .i64)).flatMap cellsD |>.map V.d))]) (lo := 0) (hi := 4) (k := 3) (es := 1) (ag := false) (l := l.map (D.int .i64)) (by omega) (by omega) (by simp [sget]) (by omega) he
  have hs := CV.snap (b := 0) (m := snapDepth) (by omega) (by decide) hc
  simp only [List.length_map] at hs
  exact rql1 hs rfl
theorem dupS_ok {l : List (List Nat)} (hl : l.length ≤ 1000000) (st : St) : callW G (.fn 54 [] []) [.d (.sl (l.map D.str))] st = some (.d (.sl (l.map D.str)), st) := by
  have he : ∀ x ∈ l.map D.str, Elt 1 false x := fun x hx => by obtain ⟨a, _, rfl⟩ := List.mem_map.1 hx; exact elt_str
  have hA : ∀ s nx lw, sget s 1 = some (.cells []) → opAppend { s := s, next := nx, low := lw } 3 1 false 16 (.arr 1 1 false 0 0) (.d (.sl (l.map D.str))) = _ := fun s nx lw h => app_data h he (by simp; omega) (by simp; omega)
  refine pure_pc (ds := [.sl (l.map D.str)]) (rs := [.sl (l.map D.str)]) T1.g54 rfl rfl (fun e w_len harg => ?_) st
  have w_len : e.length = 6 := w_len
  have w_0 := harg 0 (by simp)
  clear harg
  simp only [List.map_cons, List.map_nil, List.getD_cons_zero] at w_0
  simp only [T1.i54, hA, w_len, w_0, ↓LA, LB, simprocAttr]
  have hc := cv_arr_data (s := [(3, .cells ((l.map D.str).flatMap cellsD |>.map V.d))]) (lo := 0) (hi := 4) (k := 3) (es := 1) (ag := false) (l := l.map D.str) (by omega) (by omega) (by simp [sget]) (by omega) he
  have hs := CV.snap (b := 0) (m := snapDepth) (by omega) (by decide) hc
  simp only [List.length_map] at hs
  exact rql1 hs rfl
theorem cloneR_ok {l : List RelT} (hl : l.length ≤ 1000000) (st : St) : callW G (.fn 53 [] []) [.d (.sl (l.map RelT.d))] st = some (.d (.sl (l.map RelT.d)), st) := by
  have he : ∀ x ∈ l.map RelT.d, Elt 3 true x := fun x hx => by obtain ⟨a, _, rfl⟩ := List.mem_map.1 hx; exact elt_rel
  cases l with
  | nil =>
    refine nil2_pc (rs := [.sl []]) T1.g53 rfl rfl (fun v hv e w_len w_0 => ?_) st
    have w_len : e.length = 8 := w_len
    rcases hv with rfl | rfl
    · simp only [w_len, w_0, T1.i53, ↓LA, LB, simprocAttr]
      exact rql1 rfl rfl
    · have hA : ∀ s nx lw, sget s 3 = some (.cells []) → opAppend { s := s, next := nx, low := lw } 5 3 true 32 (.arr 3 3 true 0 0) .emp = _ := fun s nx lw h => app_nil0 h rfl
      simp only [w_len, w_0, T1.i53, hA, ↓LA, LB, simprocAttr]
      refine rql1 (x := .sl []) ?_ rfl
      simp [snap, snapDepth, scells, sget, chunks]
  | cons a l =>
    have hA : ∀ s nx lw, sget s 3 = some (.cells []) → opAppend { s := s, next := nx, low := lw } 5 3 true 32 (.arr 3 3 true 0 0) (.d (.sl ((a :: l).map RelT.d))) = _ := fun s nx lw h => app_data h he (by simp at hl ⊢; omega) (by simp at hl ⊢; omega)
    simp only [List.map_cons] at hA
    refine pure2_pc (ds := [.sl ((a :: l).map RelT.d)]) (rs := [.sl ((a :: l).map RelT.d)]) T1.g53 rfl rfl (fun e w_len harg => ?_) st
    have w_len : e.length = 8 := w_len
    have w_0 := harg 0 (by simp)
    clear harg
    simp only [List.map_cons, List.map_nil, List.getD_cons_zero] at w_0
    simp only [T1.i53, List.map_cons, hA, w_len, w_0, ↓LA, LB, simprocAttr]
    have hc := cv_arr_data (s := [(5, .cells (((a :: l).map RelT.d).flatMap cellsD |>.map V.d))]) (lo := 0) (hi := 6) (k := 5) (es := 3) (ag := true) (l := (a :: l).map RelT.d) (by omega) (by omega) (by simp [sget]) (by omega) he
    have hs := CV.snap (b := 0) (m := snapDepth) (by omega) (by decide) hc
    simp only [List.map_cons, List.length_cons, List.length_map] at hs
    exact rql1 hs rfl
end Go.Lift.K
namespace Go.Lift.K
open Go Go.Lift
set_option maxRecDepth 100000
def nodeSmall (x : NodeT) : Prop := x.kids.length ≤ 1000000
theorem take_snoc {α : Type} {l : List α} {i : Nat} (hi : i < l.length) : l.take (i + 1) = l.take i ++ [l[i]] := by
  rw [List.take_add_one, List.getElem?_eq_getElem hi]
  rfl
theorem elts_map {α : Type} {enc : α → D} {l : List α} {es : Nat} {ag : Bool} (h : ∀ a, Elt es ag (enc a)) : ∀ x ∈ l.map enc, Elt es ag x := fun x hx => by
  obtain ⟨a, _, rfl⟩ := List.mem_map.1 hx
  exact h a
theorem ownTree_ok {t : TreeT} (hl : t.nodes.length ≤ 1000000) (hk : ∀ x ∈ t.nodes, nodeSmall x) (st : St) : callW G (.fn 55 [] []) [.d t.d] st = some (.d t.d, st) := by
  refine pure_pc (ds := [t.d]) (rs := [t.d]) T1.g55 rfl rfl (fun e w_len harg => ?_) st
  have w_len : e.length = 29 := w_len
  have w_0 := harg 0 (by simp)
  clear harg
  simp only [List.map_cons, List.map_nil, List.getD_cons_zero] at w_0
  simp only [T1.i55, TreeT.d, w_len, w_0, ↓LA, LB, simprocAttr]
  refine lp_rounds (fun e0 s0 m env st => ∃ (i nxi lwi : Nat) (si : List (Nat × Obj)) (xv : V), m = t.nodes.length - i ∧ (i ≤ t.nodes.length) ∧ (Gr si false 7 0 nxi 2 true xv ((t.nodes.take i).map NodeT.d)) ∧ sget si (0) = some (.cells [.d (.sl (t.nodes.map NodeT.d)), .d (.int .i64 t.root)]) ∧ sget si (1) = some (.cells [.nilS, .d (.int .i64 0)]) ∧ sget si (5) = some (.cells [xv, .d (.int .i64 t.root)]) ∧ 7 ≤ nxi ∧ 0 ≤ lwi ∧ env.length = 29 ∧ env.getD 12 .undef = .d (.int .i64 i) ∧ env.getD 1 .undef = .ptr 0 0 ∧ env.getD 2 .undef = .ptr 1 0 ∧ env.getD 3 .undef = .ptr 5 0 ∧ env.getD 10 .undef = .d (.sl (t.nodes.map NodeT.d)) ∧ env.getD 11 .undef = .d (.int .i64 t.nodes.length) ∧ st = { s := si, next := nxi, low := lwi }) ?_ (t.nodes.length) (by refine ⟨0, _, _, _, .nilS, rfl, by omega, Gr.nil, ?_, ?_, ?_, (by omega), Nat.zero_le _, ?_, ?_, ?_, ?_, ?_, ?_, ?_, rfl⟩ <;> simp only [w_len, LB, simprocAttr])
  rintro m env st ⟨i, nxi, lwi, si, xv, hm, a_0, a_1, w_ac0, w_ac1, w_ac2, w_ab, w_alo, w_len, w_12, w_1, w_2, w_3, w_10, w_11, rfl⟩
  have w_aN := And.intro (cf1 (x := nxi) (a := 0) (by omega)) (And.intro (cf1 (x := nxi) (a := 1) (by omega)) (cf1 (x := nxi) (a := 5) (by omega)))
  have w_aS := And.intro (cf2 (x := nxi) (by omega) w_ac0) (And.intro (cf2 (x := nxi) (by omega) w_ac1) (cf2 (x := nxi) (by omega) w_ac2))
  have w_aZ := zf0 (x := nxi) (n := 7) (by omega)
  have w_a_1V := And.intro (a_1.away (j := 0) (by omega)) (And.intro (a_1.away (j := 1) (by omega)) (a_1.away (j := 5) (by omega)))
  have w_a_1c := a_1.cell.1
  have w_a_1d := a_1.cell.2
  have w_a_1e := a_1.beq
  by_cases hi : i < t.nodes.length
  · have hD := fun st => dupI_ok (hk _ (List.getElem_mem hi)) st
    simp only [hi, iaddr_node hi, hD, w_len, w_12, w_3, w_10, w_11, w_ac2, w_aN, w_a_1e, ↓LA, LB, simprocAttr]
    refine pv_app a_1 ?_ (elts_map fun a => elt_node) sget_cons_eq ?_ ?_ ?_ ?_ ?_ fun chc0 hc0 => ?_
    · intro j h1 h2; simp (disch := omega) only [sget_cons_ne]
    · rfl
    · omega
    · simp; omega
    · simp; omega
    · exact rfl
    simp only [wrap_succ hi (by omega), w_len, w_12, w_3, w_ac2, w_aN, w_a_1V, ↓LA, LB, simprocAttr]
    have hn : (t.nodes.take (i + 1)).map NodeT.d = (t.nodes.take i).map NodeT.d ++ [t.nodes[i].d] := by rw [take_snoc hi, List.map_append]; rfl
    exact nx_intro (by refine ⟨_, by omega, i + 1, _, _, _, .arr (nxi + 14) 2 true 0 (((t.nodes.take i).map NodeT.d).length + 1), rfl, by omega, (by rw [hn]; exact gr_part hc0 (by intro j h1 h2 h3; simp (disch := omega) only [sget_cons_ne, sget_sset_nn, sget_grow_nn h3]) (by omega) (by omega) (by omega) sget_cons_eq rfl ⟨CV.str, CV.data, trivial⟩), ?_, ?_, ?_, (by omega), Nat.zero_le _, ?_, ?_, ?_, ?_, ?_, ?_, ?_, rfl⟩ <;> simp only [w_len, w_1, w_2, w_3, w_10, w_11, w_ac0, w_ac1, w_ac2, w_aN, w_a_1V, LB, simprocAttr])
  · have ht : t.nodes.take i = t.nodes := List.take_of_length_le (by omega)
    have hga := a_1
    rw [ht] at hga
    simp only [hi, w_len, w_12, w_2, w_3, w_11, w_ac1, w_ac2, w_aS, w_a_1c, ↓LA, LB, simprocAttr]
    refine rql1 (x := t.d) (snap_mk (lv := false) (lo := 7) (n := 1) (hi := nxi) (m := 11) (by omega) (by decide) ⟨(hga.frame (by intro j h1 h2; simp (disch := omega) only [sget_sset_nn])).cv (by omega) (elts_map fun a => elt_node), CV.int, trivial⟩) rfl
def treeSmall (t : TreeT) : Prop := t.nodes.length ≤ 1000000 ∧ ∀ x ∈ t.nodes, nodeSmall x
theorem ownGoal_ok {g : GoalT} (hl : g.args.length ≤ 1000000) (hk : ∀ x ∈ g.args, treeSmall x) (st : St) : callW G (.fn 11 [] []) [.d g.d] st = some (.d g.d, st) := by
  refine pure_pc (ds := [g.d]) (rs := [g.d]) T1.g11 rfl rfl (fun e w_len harg => ?_) st
  have w_len : e.length = 25 := w_len
  have w_0 := harg 0 (by simp)
  clear harg
  simp only [List.map_cons, List.map_nil, List.getD_cons_zero] at w_0
  simp only [T1.i11, GoalT.d, w_len, w_0, ↓LA, LB, simprocAttr]
  refine lp_rounds (fun e0 s0 m env st => ∃ (i nxi lwi : Nat) (si : List (Nat × Obj)) (xv : V), m = g.args.length - i ∧ (i ≤ g.args.length) ∧ (Gr si false 7 0 nxi 2 true xv ((g.args.take i).map TreeT.d)) ∧ sget si (0) = some (.cells [.d (.str g.rel), .d (.sl (g.args.map TreeT.d))]) ∧ sget si (1) = some (.cells [.d (.str []), .nilS]) ∧ sget si (5) = some (.cells [.d (.str g.rel), xv]) ∧ 7 ≤ nxi ∧ 0 ≤ lwi ∧ env.length = 25 ∧ env.getD 12 .undef = .d (.int .i64 i) ∧ env.getD 1 .undef = .ptr 0 0 ∧ env.getD 2 .undef = .ptr 1 0 ∧ env.getD 3 .undef = .ptr 5 0 ∧ env.getD 10 .undef = .d (.sl (g.args.map TreeT.d)) ∧ env.getD 11 .undef = .d (.int .i64 g.args.length) ∧ st = { s := si, next := nxi, low := lwi }) ?_ (g.args.length) (by refine ⟨0, _, _, _, .nilS, rfl, by omega, Gr.nil, ?_, ?_, ?_, (by omega), Nat.zero_le _, ?_, ?_, ?_, ?_, ?_, ?_, ?_, rfl⟩ <;> simp only [w_len, LB, simprocAttr])
  rintro m env st ⟨i, nxi, lwi, si, xv, hm, a_0, a_1, w_ac0, w_ac1, w_ac2, w_ab, w_alo, w_len, w_12, w_1, w_2, w_3, w_10, w_11, rfl⟩
  have w_aN := And.intro (cf1 (x := nxi) (a := 0) (by omega)) (And.intro (cf1 (x := nxi) (a := 1) (by omega)) (cf1 (x := nxi) (a := 5) (by omega)))
  have w_aS := And.intro (cf2 (x := nxi) (by omega) w_ac0) (And.intro (cf2 (x := nxi) (by omega) w_ac1) (cf2 (x := nxi) (by omega) w_ac2))
  have w_aZ := zf0 (x := nxi) (n := 7) (by omega)
  have w_a_1V := And.intro (a_1.away (j := 0) (by omega)) (And.intro (a_1.away (j := 1) (by omega)) (a_1.away (j := 5) (by omega)))
  have w_a_1c := a_1.cell.1
  have w_a_1d := a_1.cell.2
  have w_a_1e := a_1.beq
  by_cases hi : i < g.args.length
  · have hD := fun st => ownTree_ok (hk _ (List.getElem_mem hi)).1 (hk _ (List.getElem_mem hi)).2 st
    simp only [TreeT.d] at hD
    simp only [hi, iaddr_tree hi, hD, w_len, w_12, w_3, w_10, w_11, w_ac2, w_aN, w_a_1e, ↓LA, LB, simprocAttr]
    refine pv_app a_1 ?_ (elts_map fun a => elt_tree) sget_cons_eq ?_ ?_ ?_ ?_ ?_ fun chc0 hc0 => ?_
    · intro j h1 h2; simp (disch := omega) only [sget_cons_ne]
    · rfl
    · omega
    · simp; omega
    · simp; omega
    · exact rfl
    simp only [wrap_succ hi (by omega), w_len, w_12, w_3, w_ac2, w_aN, w_a_1V, ↓LA, LB, simprocAttr]
    have hn : (g.args.take (i + 1)).map TreeT.d = (g.args.take i).map TreeT.d ++ [g.args[i].d] := by rw [take_snoc hi, List.map_append]; rfl
    exact nx_intro (by refine ⟨_, by omega, i + 1, _, _, _, .arr (nxi + 10) 2 true 0 (((g.args.take i).map TreeT.d).length + 1), rfl, by omega, (by rw [hn]; exact gr_part hc0 (by intro j h1 h2 h3; simp (disch := omega) only [sget_cons_ne, sget_sset_nn, sget_grow_nn h3]) (by omega) (by omega) (by omega) sget_cons_eq rfl ⟨CV.data, CV.int, trivial⟩), ?_, ?_, ?_, (by omega), Nat.zero_le _, ?_, ?_, ?_, ?_, ?_, ?_, ?_, rfl⟩ <;> simp only [w_len, w_1, w_2, w_3, w_10, w_11, w_ac0, w_ac1, w_ac2, w_aN, w_a_1V, LB, simprocAttr])
  · have ht : g.args.take i = g.args := List.take_of_length_le (by omega)
    have hga := a_1
    rw [ht] at hga
    simp only [hi, w_len, w_12, w_2, w_3, w_11, w_ac1, w_ac2, w_aS, w_a_1c, ↓LA, LB, simprocAttr]
    refine rql1 (x := g.d) (snap_mk (lv := false) (lo := 7) (n := 1) (hi := nxi) (m := 11) (by omega) (by decide) ⟨CV.str, (hga.frame (by intro j h1 h2; simp (disch := omega) only [sget_sset_nn])).cv (by omega) (elts_map fun a => elt_tree), trivial⟩) rfl
end Go.Lift.K
namespace Go.Lift.K
open Go Go.Lift
set_option maxRecDepth 100000
def altsSmall (s : SortT) : Prop := s.alts.length ≤ 1000000 ∧ ∀ x ∈ s.alts, nodeSmall x
def typeSmall (t : TypeT) : Prop := t.sorts.length ≤ 1000000 ∧ ∀ s ∈ t.sorts, altsSmall s
theorem ownType_ok {t : TypeT} (hk : typeSmall t) (st : St) : callW G (.fn 12 [] []) [.d t.d] st = some (.d t.d, st) := by
  have hl := hk.1
  refine pure_pc (ds := [t.d]) (rs := [t.d]) T1.g12 rfl rfl (fun e w_len harg => ?_) st
  have w_len : e.length = 49 := w_len
  have w_0 := harg 0 (by simp)
  clear harg
  simp only [List.map_cons, List.map_nil, List.getD_cons_zero] at w_0
  simp only [T1.i12, TypeT.d, w_len, w_0, ↓LA, LB, simprocAttr]
  refine lp_rounds (fun e0 s0 m env st => ∃ (i nxi lwi : Nat) (si : List (Nat × Obj)) (xv : V), m = t.sorts.length - i ∧ (i ≤ t.sorts.length) ∧ (Gr si false 7 1 nxi 2 true xv ((t.sorts.take i).map SortT.d)) ∧ sget si (0) = some (.cells [.d (.sl (t.sorts.map SortT.d)), .d (.int .i64 t.start)]) ∧ sget si (1) = some (.cells [.nilS, .d (.int .i64 0)]) ∧ sget si (5) = some (.cells [xv, .d (.int .i64 t.start)]) ∧ 7 ≤ nxi ∧ 0 ≤ lwi ∧ env.length = 49 ∧ env.getD 15 .undef = .d (.int .i64 i) ∧ env.getD 1 .undef = .ptr 0 0 ∧ env.getD 2 .undef = .ptr 1 0 ∧ env.getD 3 .undef = .ptr 5 0 ∧ env.getD 13 .undef = .d (.sl (t.sorts.map SortT.d)) ∧ env.getD 14 .undef = .d (.int .i64 t.sorts.length) ∧ st = { s := si, next := nxi, low := lwi }) ?_ (t.sorts.length) (by refine ⟨0, _, _, _, .nilS, rfl, by omega, Gr.nil, ?_, ?_, ?_, (by omega), Nat.zero_le _, ?_, ?_, ?_, ?_, ?_, ?_, ?_, rfl⟩ <;> simp only [w_len, LB, simprocAttr])
  rintro m env st ⟨i, nxi, lwi, si, xv, hm, a_0, a_1, w_ac0, w_ac1, w_ac2, w_ab, w_alo, w_len, w_15, w_1, w_2, w_3, w_13, w_14, rfl⟩
  have w_aN := And.intro (cf1 (x := nxi) (a := 0) (by omega)) (And.intro (cf1 (x := nxi) (a := 1) (by omega)) (cf1 (x := nxi) (a := 5) (by omega)))
  have w_aS := And.intro (cf2 (x := nxi) (by omega) w_ac0) (And.intro (cf2 (x := nxi) (by omega) w_ac1) (cf2 (x := nxi) (by omega) w_ac2))
  have w_aZ := zf0 (x := nxi) (n := 7) (by omega)
  have w_a_1V := And.intro (a_1.away (j := 0) (by omega)) (And.intro (a_1.away (j := 1) (by omega)) (a_1.away (j := 5) (by omega)))
  have w_a_1c := a_1.cell.1
  have w_a_1d := a_1.cell.2
  have w_a_1e := a_1.beq
  by_cases hi : i < t.sorts.length
  · have hs := hk.2 _ (List.getElem_mem hi)
    have hsl := hs.1
    simp only [hi, iaddr_sort hi, w_len, w_15, w_13, w_14, ↓LA, LB, simprocAttr]
    refine lp_rounds (fun e0 s0 m env st => ∃ (k nxk lwk : Nat) (sk : List (Nat × Obj)) (xw : V), m = t.sorts[i].alts.length - k ∧ (k ≤ t.sorts[i].alts.length) ∧ (Gr sk false (nxi + 14) 0 nxk 2 true xw ((t.sorts[i].alts.take k).map NodeT.d)) ∧ (Gr sk false 7 1 nxi 2 true xv ((t.sorts.take i).map SortT.d)) ∧ sget sk (0) = some (.cells [.d (.sl (t.sorts.map SortT.d)), .d (.int .i64 t.start)]) ∧ sget sk (1) = some (.cells [.nilS, .d (.int .i64 0)]) ∧ sget sk (5) = some (.cells [xv, .d (.int .i64 t.start)]) ∧ sget sk (nxi + 8) = some (.cells [.d (.int .i64 t.sorts[i].rank), xw]) ∧ nxi + 14 ≤ nxk ∧ 0 ≤ lwk ∧ env.length = 49 ∧ env.getD 25 .undef = .d (.int .i64 k) ∧ env.getD 1 .undef = .ptr 0 0 ∧ env.getD 2 .undef = .ptr 1 0 ∧ env.getD 3 .undef = .ptr 5 0 ∧ env.getD 6 .undef = .ptr (nxi + 8) 0 ∧ env.getD 13 .undef = .d (.sl (t.sorts.map SortT.d)) ∧ env.getD 14 .undef = .d (.int .i64 t.sorts.length) ∧ env.getD 15 .undef = .d (.int .i64 i) ∧ env.getD 23 .undef = .d (.sl (t.sorts[i].alts.map NodeT.d)) ∧ env.getD 24 .undef = .d (.int .i64 t.sorts[i].alts.length) ∧ st = { s := sk, next := nxk, low := lwk }) ?_ (t.sorts[i].alts.length) (by refine ⟨0, _, _, _, .nilS, rfl, by omega, Gr.nil, a_1.frame (by intro j h1 h2; simp (disch := omega) only [sget_cons_ne]), ?_, ?_, ?_, ?_, (by omega), Nat.zero_le _, ?_, ?_, ?_, ?_, ?_, ?_, ?_, ?_, ?_, ?_, ?_, rfl⟩ <;> simp only [w_len, w_15, w_1, w_2, w_3, w_13, w_14, w_ac0, w_ac1, w_ac2, w_aN, LB, simprocAttr])
    rintro m env st ⟨k, nxk, lwk, sk, xw, hm, b_0, b_1, b_2, w_bc0, w_bc1, w_bc2, w_bc3, w_bb, w_blo, w_len, w_25, w_1, w_2, w_3, w_6, w_13, w_14, w_15, w_23, w_24, rfl⟩
    have w_bN := And.intro (cf1 (x := nxk) (a := 0) (by omega)) (And.intro (cf1 (x := nxk) (a := 1) (by omega)) (And.intro (cf1 (x := nxk) (a := 5) (by omega)) (cf1 (x := nxk) (a := nxi + 8) (by omega))))
    have w_bS := And.intro (cf2 (x := nxk) (by omega) w_bc0) (And.intro (cf2 (x := nxk) (by omega) w_bc1) (And.intro (cf2 (x := nxk) (by omega) w_bc2) (cf2 (x := nxk) (by omega) w_bc3)))
    have w_bZ := And.intro (zf (x := nxk) (b := nxi) (n := 14) (by omega) (by omega)) (zf0 (x := nxk) (n := 7) (by omega))
    have w_b_1V := And.intro (b_1.away (j := 0) (by omega)) (And.intro (b_1.away (j := 1) (by omega)) (And.intro (b_1.away (j := 5) (by omega)) (b_1.away (j := nxi + 8) (by omega))))
    have w_b_1c := b_1.cell.1
    have w_b_1d := b_1.cell.2
    have w_b_1e := b_1.beq
    have w_b_2V := And.intro (b_2.away (j := 0) (by omega)) (And.intro (b_2.away (j := 1) (by omega)) (And.intro (b_2.away (j := 5) (by omega)) (b_2.away (j := nxi + 8) (by omega))))
    have w_b_2c := b_2.cell.1
    have w_b_2d := b_2.cell.2
    have w_b_2e := b_2.beq
    by_cases hj : k < t.sorts[i].alts.length
    · have hD := fun st => dupI_ok (hs.2 _ (List.getElem_mem hj)) st
      simp only [hj, iaddr_node hj, hD, w_len, w_25, w_6, w_23, w_24, w_bc3, w_bN, w_b_1e, ↓LA, LB, simprocAttr]
      refine pv_app b_1 ?_ (elts_map fun a => elt_node) sget_cons_eq ?_ ?_ ?_ ?_ ?_ fun chc0 hc0 => ?_
      · intro j h1 h2; simp (disch := omega) only [sget_cons_ne]
      · rfl
      · omega
      · simp; omega
      · simp; omega
      · exact rfl
      simp only [wrap_succ hj (by omega), w_len, w_25, w_6, w_bc3, w_bN, w_b_1V, ↓LA, LB, simprocAttr]
      have hn : (t.sorts[i].alts.take (k + 1)).map NodeT.d = (t.sorts[i].alts.take k).map NodeT.d ++ [t.sorts[i].alts[k].d] := by rw [take_snoc hj, List.map_append]; rfl
      exact nx_intro (by refine ⟨_, by omega, k + 1, _, _, _, .arr (nxk + 14) 2 true 0 (((t.sorts[i].alts.take k).map NodeT.d).length + 1), rfl, by omega, (by rw [hn]; exact gr_part hc0 (by intro j h1 h2 h3; simp (disch := omega) only [sget_cons_ne, sget_sset_nn, sget_grow_nn h3]) (by omega) (by omega) (by omega) sget_cons_eq rfl ⟨CV.str, CV.data, trivial⟩), b_2.frame (by intro j h1 h2; simp (disch := omega) only [sget_cons_ne, sget_sset_nn, sget_grow_nn (b_1.away (j := j) (by omega))]), ?_, ?_, ?_, ?_, (by omega), Nat.zero_le _, ?_, ?_, ?_, ?_, ?_, ?_, ?_, ?_, ?_, ?_, ?_, rfl⟩ <;> simp only [w_len, w_1, w_2, w_3, w_6, w_13, w_14, w_15, w_23, w_24, w_bc0, w_bc1, w_bc2, w_bc3, w_bN, w_aN, w_b_1V, LB, simprocAttr])
    · have ht : t.sorts[i].alts.take k = t.sorts[i].alts := List.take_of_length_le (by omega)
      have hgb := b_1
      rw [ht] at hgb
      simp only [hj, w_len, w_25, w_3, w_6, w_24, w_bc2, w_bc3, w_b_1c, ↓LA, LB, simprocAttr]
      refine pv_app b_2 ?_ (elts_map fun a => elt_sort) sget_cons_eq ?_ ?_ ?_ ?_ ?_ fun chc0 hc0 => ?_
      · intro j h1 h2; simp (disch := omega) only [sget_cons_ne]
      · rfl
      · omega
      · simp; omega
      · simp; omega
      · simp only [List.all_cons, List.all_nil, ic_int, w_b_1c, Bool.and_self]
      simp only [wrap_succ hi (by omega), w_len, w_3, w_15, w_bc2, w_bN, w_b_2V, ↓LA, LB, simprocAttr]
      have hn : (t.sorts.take (i + 1)).map SortT.d = (t.sorts.take i).map SortT.d ++ [t.sorts[i].d] := by rw [take_snoc hi, List.map_append]; rfl
      exact nx_intro (by refine ⟨_, by omega, i + 1, _, _, _, .arr (nxk + 5) 2 true 0 (((t.sorts.take i).map SortT.d).length + 1), rfl, by omega, (by rw [hn]; exact gr_part hc0 (by intro j h1 h2 h3; simp (disch := omega) only [sget_cons_ne, sget_sset_nn, sget_grow_nn h3]) (by omega) (by omega) (by omega) sget_cons_eq rfl ⟨CV.int, CV.lo (by omega) (CV.hi ((hgb.frame (by intro j h1 h2; simp (disch := omega) only [sget_cons_ne, sget_sset_nn, sget_grow_nn (b_2.away (j := j) (by omega))])).cv (by omega) (elts_map fun a => elt_node)) (by omega)), trivial⟩), ?_, ?_, ?_, (by omega), Nat.zero_le _, ?_, ?_, ?_, ?_, ?_, ?_, ?_, rfl⟩ <;> simp only [w_len, w_1, w_2, w_3, w_13, w_14, w_bc0, w_bc1, w_bc2, w_bN, w_b_2V, LB, simprocAttr])
  · have ht : t.sorts.take i = t.sorts := List.take_of_length_le (by omega)
    have hga := a_1
    rw [ht] at hga
    simp only [hi, w_len, w_15, w_2, w_3, w_14, w_ac1, w_ac2, w_aS, w_a_1c, ↓LA, LB, simprocAttr]
    refine rql1 (x := t.d) (snap_mk (lv := false) (lo := 7) (n := 2) (hi := nxi) (m := 11) (by omega) (by decide) ⟨(hga.frame (by intro j h1 h2; simp (disch := omega) only [sget_sset_nn])).cv (by omega) (elts_map fun a => elt_sort), CV.int, trivial⟩) rfl
end Go.Lift.K
namespace Go.Lift.K
open Go Go.Lift
set_option maxRecDepth 100000
def patSmall (x : PatT) : Prop := x.vars.length ≤ 1000000
def patsSmall (l : List PatT) : Prop := l.length ≤ 1000000 ∧ ∀ x ∈ l, patSmall x
def rulesSmall (r : RulesT) : Prop := r.rels.length ≤ 1000000 ∧ r.clauses.length ≤ 1000000 ∧ ∀ c ∈ r.clauses, patsSmall c.head ∧ patsSmall c.body
theorem own_ok {r : RulesT} (hk : rulesSmall r) (st : St) : callW G (.fn 10 [] []) [.d r.d] st = some (.d r.d, st) := by
  have hl := hk.2.1
  have hCl := fun st => cloneR_ok hk.1 st
  refine pure_pc (ds := [r.d]) (rs := [r.d]) T1.g10 rfl rfl (fun e w_len harg => ?_) st
  have w_len : e.length = 71 := w_len
  have w_0 := harg 0 (by simp)
  clear harg
  simp only [List.map_cons, List.map_nil, List.getD_cons_zero] at w_0
  simp only [T1.i10, RulesT.d, hCl, w_len, w_0, ↓LA, LB, simprocAttr]
  refine lp_rounds (fun e0 s0 m env st => ∃ (i nxi lwi : Nat) (si : List (Nat × Obj)) (xv : V), m = r.clauses.length - i ∧ (i ≤ r.clauses.length) ∧ (Gr si false 8 1 nxi 3 true xv ((r.clauses.take i).map ClauseT.d)) ∧ sget si (0) = some (.cells [.d (.sl (r.rels.map RelT.d)), .d (.sl (r.clauses.map ClauseT.d))]) ∧ sget si (1) = some (.cells [.nilS, .nilS]) ∧ sget si (6) = some (.cells [.d (.sl (r.rels.map RelT.d)), xv]) ∧ 8 ≤ nxi ∧ 0 ≤ lwi ∧ env.length = 71 ∧ env.getD 18 .undef = .d (.int .i64 i) ∧ env.getD 1 .undef = .ptr 0 0 ∧ env.getD 2 .undef = .ptr 1 0 ∧ env.getD 3 .undef = .ptr 6 0 ∧ env.getD 16 .undef = .d (.sl (r.clauses.map ClauseT.d)) ∧ env.getD 17 .undef = .d (.int .i64 r.clauses.length) ∧ st = { s := si, next := nxi, low := lwi }) ?_ (r.clauses.length) (by refine ⟨0, _, _, _, .nilS, rfl, by omega, Gr.nil, ?_, ?_, ?_, (by omega), Nat.zero_le _, ?_, ?_, ?_, ?_, ?_, ?_, ?_, rfl⟩ <;> simp only [w_len, LB, simprocAttr])
  rintro m env st ⟨i, nxi, lwi, si, xv, hm, a_0, a_1, w_ac0, w_ac1, w_ac2, w_ab, w_alo, w_len, w_18, w_1, w_2, w_3, w_16, w_17, rfl⟩
  have w_aN := And.intro (cf1 (x := nxi) (a := 0) (by omega)) (And.intro (cf1 (x := nxi) (a := 1) (by omega)) (cf1 (x := nxi) (a := 6) (by omega)))
  have w_aS := And.intro (cf2 (x := nxi) (by omega) w_ac0) (And.intro (cf2 (x := nxi) (by omega) w_ac1) (cf2 (x := nxi) (by omega) w_ac2))
  have w_aZ := zf0 (x := nxi) (n := 8) (by omega)
  have w_a_1V := And.intro (a_1.away (j := 0) (by omega)) (And.intro (a_1.away (j := 1) (by omega)) (a_1.away (j := 6) (by omega)))
  have w_a_1c := a_1.cell.1
  have w_a_1d := a_1.cell.2
  have w_a_1e := a_1.beq
  by_cases hi : i < r.clauses.length
  · have hs := hk.2.2 _ (List.getElem_mem hi)
    have hs1 := hs.1.1
    have hs2 := hs.2.1
    simp only [hi, iaddr_clause hi, w_len, w_18, w_16, w_17, ↓LA, LB, simprocAttr]
    refine lp_rounds (fun e0 s0 m env st => ∃ (k nxk lwk : Nat) (sk : List (Nat × Obj)) (xw : V), m = r.clauses[i].head.length - k ∧ (k ≤ r.clauses[i].head.length) ∧ (Gr sk false (nxi + 14) 0 nxk 2 true xw ((r.clauses[i].head.take k).map PatT.d)) ∧ (Gr sk false 8 1 nxi 3 true xv ((r.clauses.take i).map ClauseT.d)) ∧ sget sk (0) = some (.cells [.d (.sl (r.rels.map RelT.d)), .d (.sl (r.clauses.map ClauseT.d))]) ∧ sget sk (1) = some (.cells [.nilS, .nilS]) ∧ sget sk (6) = some (.cells [.d (.sl (r.rels.map RelT.d)), xv]) ∧ sget sk (nxi + 3) = some (.cells [.d (.str r.clauses[i].rel), .d (.sl (r.clauses[i].head.map PatT.d)), .d (.sl (r.clauses[i].body.map PatT.d))]) ∧ sget sk (nxi + 8) = some (.cells [.d (.str r.clauses[i].rel), xw, .nilS]) ∧ nxi + 14 ≤ nxk ∧ 0 ≤ lwk ∧ env.length = 71 ∧ env.getD 28 .undef = .d (.int .i64 k) ∧ env.getD 1 .undef = .ptr 0 0 ∧ env.getD 2 .undef = .ptr 1 0 ∧ env.getD 3 .undef = .ptr 6 0 ∧ env.getD 5 .undef = .ptr (nxi + 3) 0 ∧ env.getD 6 .undef = .ptr (nxi + 8) 0 ∧ env.getD 16 .undef = .d (.sl (r.clauses.map ClauseT.d)) ∧ env.getD 17 .undef = .d (.int .i64 r.clauses.length) ∧ env.getD 18 .undef = .d (.int .i64 i) ∧ env.getD 26 .undef = .d (.sl (r.clauses[i].head.map PatT.d)) ∧ env.getD 27 .undef = .d (.int .i64 r.clauses[i].head.length) ∧ st = { s := sk, next := nxk, low := lwk }) ?_ (r.clauses[i].head.length) (by refine ⟨0, _, _, _, .nilS, rfl, by omega, Gr.nil, a_1.frame (by intro j h1 h2; simp (disch := omega) only [sget_cons_ne]), ?_, ?_, ?_, ?_, ?_, (by omega), Nat.zero_le _, ?_, ?_, ?_, ?_, ?_, ?_, ?_, ?_, ?_, ?_, ?_, ?_, rfl⟩ <;> simp only [w_len, w_18, w_1, w_2, w_3, w_16, w_17, w_ac0, w_ac1, w_ac2, w_aN, LB, simprocAttr])
    rintro m env st ⟨k, nxk, lwk, sk, xw, hm, b_0, b_1, b_2, w_bc0, w_bc1, w_bc2, w_bc3, w_bc4, w_bb, w_blo, w_len, w_28, w_1, w_2, w_3, w_5, w_6, w_16, w_17, w_18, w_26, w_27, rfl⟩
    have w_bN := And.intro (cf1 (x := nxk) (a := 0) (by omega)) (And.intro (cf1 (x := nxk) (a := 1) (by omega)) (And.intro (cf1 (x := nxk) (a := 6) (by omega)) (And.intro (cf1 (x := nxk) (a := nxi + 3) (by omega)) (cf1 (x := nxk) (a := nxi + 8) (by omega)))))
    have w_bS := And.intro (cf2 (x := nxk) (by omega) w_bc0) (And.intro (cf2 (x := nxk) (by omega) w_bc1) (And.intro (cf2 (x := nxk) (by omega) w_bc2) (And.intro (cf2 (x := nxk) (by omega) w_bc3) (cf2 (x := nxk) (by omega) w_bc4))))
    have w_bZ := And.intro (zf (x := nxk) (b := nxi) (n := 14) (by omega) (by omega)) (zf0 (x := nxk) (n := 8) (by omega))
    have w_b_1V := And.intro (b_1.away (j := 0) (by omega)) (And.intro (b_1.away (j := 1) (by omega)) (And.intro (b_1.away (j := 6) (by omega)) (And.intro (b_1.away (j := nxi + 3) (by omega)) (b_1.away (j := nxi + 8) (by omega)))))
    have w_b_1c := b_1.cell.1
    have w_b_1d := b_1.cell.2
    have w_b_1e := b_1.beq
    have w_b_2V := And.intro (b_2.away (j := 0) (by omega)) (And.intro (b_2.away (j := 1) (by omega)) (And.intro (b_2.away (j := 6) (by omega)) (And.intro (b_2.away (j := nxi + 3) (by omega)) (b_2.away (j := nxi + 8) (by omega)))))
    have w_b_2c := b_2.cell.1
    have w_b_2d := b_2.cell.2
    have w_b_2e := b_2.beq
    by_cases hj : k < r.clauses[i].head.length
    · have hD := fun st => dupS_ok (hs.1.2 _ (List.getElem_mem hj)) st
      simp only [hj, iaddr_pat hj, hD, w_len, w_28, w_6, w_26, w_27, w_bc4, w_bN, w_b_1e, ↓LA, LB, simprocAttr]
      refine pv_app b_1 ?_ (elts_map fun a => elt_pat) sget_cons_eq ?_ ?_ ?_ ?_ ?_ fun chc0 hc0 => ?_
      · intro j h1 h2; simp (disch := omega) only [sget_cons_ne]
      · rfl
      · omega
      · simp; omega
      · simp; omega
      · exact rfl
      simp only [wrap_succ hj (by omega), w_len, w_28, w_6, w_bc4, w_bN, w_b_1V, ↓LA, LB, simprocAttr]
      have hn : (r.clauses[i].head.take (k + 1)).map PatT.d = (r.clauses[i].head.take k).map PatT.d ++ [r.clauses[i].head[k].d] := by rw [take_snoc hj, List.map_append]; rfl
      exact nx_intro (by refine ⟨_, by omega, k + 1, _, _, _, .arr (nxk + 14) 2 true 0 (((r.clauses[i].head.take k).map PatT.d).length + 1), rfl, by omega, (by rw [hn]; exact gr_part hc0 (by intro j h1 h2 h3; simp (disch := omega) only [sget_cons_ne, sget_sset_nn, sget_grow_nn h3]) (by omega) (by omega) (by omega) sget_cons_eq rfl ⟨CV.str, CV.data, trivial⟩), b_2.frame (by intro j h1 h2; simp (disch := omega) only [sget_cons_ne, sget_sset_nn, sget_grow_nn (b_1.away (j := j) (by omega))]), ?_, ?_, ?_, ?_, ?_, (by omega), Nat.zero_le _, ?_, ?_, ?_, ?_, ?_, ?_, ?_, ?_, ?_, ?_, ?_, ?_, rfl⟩ <;> simp only [w_len, w_1, w_2, w_3, w_5, w_6, w_16, w_17, w_18, w_26, w_27, w_bc0, w_bc1, w_bc2, w_bc3, w_bc4, w_bN, w_aN, w_b_1V, LB, simprocAttr])
    · have ht : r.clauses[i].head.take k = r.clauses[i].head := List.take_of_length_le (by omega)
      rw [ht] at b_1
      simp only [hj, w_len, w_28, w_5, w_27, w_bc3, ↓LA, LB, simprocAttr]
      refine lp_rounds (fun e0 s0 m env st => ∃ (z nxz lwz : Nat) (sz : List (Nat × Obj)) (xz : V), m = r.clauses[i].body.length - z ∧ (z ≤ r.clauses[i].body.length) ∧ (Gr sz false (nxk + 5) 0 nxz 2 true xz ((r.clauses[i].body.take z).map PatT.d)) ∧ (Gr sz false 8 1 nxi 3 true xv ((r.clauses.take i).map ClauseT.d)) ∧ (Gr sz false (nxi + 14) 0 nxk 2 true xw (r.clauses[i].head.map PatT.d)) ∧ sget sz (0) = some (.cells [.d (.sl (r.rels.map RelT.d)), .d (.sl (r.clauses.map ClauseT.d))]) ∧ sget sz (1) = some (.cells [.nilS, .nilS]) ∧ sget sz (6) = some (.cells [.d (.sl (r.rels.map RelT.d)), xv]) ∧ sget sz (nxi + 3) = some (.cells [.d (.str r.clauses[i].rel), .d (.sl (r.clauses[i].head.map PatT.d)), .d (.sl (r.clauses[i].body.map PatT.d))]) ∧ sget sz (nxi + 8) = some (.cells [.d (.str r.clauses[i].rel), xw, xz]) ∧ nxk + 5 ≤ nxz ∧ 0 ≤ lwz ∧ env.length = 71 ∧ env.getD 47 .undef = .d (.int .i64 z) ∧ env.getD 1 .undef = .ptr 0 0 ∧ env.getD 2 .undef = .ptr 1 0 ∧ env.getD 3 .undef = .ptr 6 0 ∧ env.getD 5 .undef = .ptr (nxi + 3) 0 ∧ env.getD 6 .undef = .ptr (nxi + 8) 0 ∧ env.getD 16 .undef = .d (.sl (r.clauses.map ClauseT.d)) ∧ env.getD 17 .undef = .d (.int .i64 r.clauses.length) ∧ env.getD 18 .undef = .d (.int .i64 i) ∧ env.getD 45 .undef = .d (.sl (r.clauses[i].body.map PatT.d)) ∧ env.getD 46 .undef = .d (.int .i64 r.clauses[i].body.length) ∧ st = { s := sz, next := nxz, low := lwz }) ?_ (r.clauses[i].body.length) (by refine ⟨0, _, _, _, .nilS, rfl, by omega, Gr.nil, b_2.frame (by intro j h1 h2; simp (disch := omega) only [sget_cons_ne]), b_1.frame (by intro j h1 h2; simp (disch := omega) only [sget_cons_ne]), ?_, ?_, ?_, ?_, ?_, (by omega), Nat.zero_le _, ?_, ?_, ?_, ?_, ?_, ?_, ?_, ?_, ?_, ?_, ?_, ?_, rfl⟩ <;> simp only [w_len, w_1, w_2, w_3, w_5, w_6, w_16, w_17, w_18, w_bc0, w_bc1, w_bc2, w_bc3, w_bc4, LB, simprocAttr])
      rintro m env st ⟨z, nxz, lwz, sz, xz, hm, c_0, c_1, c_2, c_3, w_cc0, w_cc1, w_cc2, w_cc3, w_cc4, w_cb, w_clo, w_len, w_47, w_1, w_2, w_3, w_5, w_6, w_16, w_17, w_18, w_45, w_46, rfl⟩
      have w_cN := And.intro (cf1 (x := nxz) (a := 0) (by omega)) (And.intro (cf1 (x := nxz) (a := 1) (by omega)) (And.intro (cf1 (x := nxz) (a := 6) (by omega)) (And.intro (cf1 (x := nxz) (a := nxi + 3) (by omega)) (cf1 (x := nxz) (a := nxi + 8) (by omega)))))
      have w_cS := And.intro (cf2 (x := nxz) (by omega) w_cc0) (And.intro (cf2 (x := nxz) (by omega) w_cc1) (And.intro (cf2 (x := nxz) (by omega) w_cc2) (And.intro (cf2 (x := nxz) (by omega) w_cc3) (cf2 (x := nxz) (by omega) w_cc4))))
      have w_cZ := And.intro (zf (x := nxz) (b := nxk) (n := 5) (by omega) (by omega)) (And.intro (zf (x := nxz) (b := nxi) (n := 14) (by omega) (by omega)) (zf0 (x := nxz) (n := 8) (by omega)))
      have w_c_1V := And.intro (c_1.away (j := 0) (by omega)) (And.intro (c_1.away (j := 1) (by omega)) (And.intro (c_1.away (j := 6) (by omega)) (And.intro (c_1.away (j := nxi + 3) (by omega)) (c_1.away (j := nxi + 8) (by omega)))))
      have w_c_1c := c_1.cell.1
      have w_c_1d := c_1.cell.2
      have w_c_1e := c_1.beq
      have w_c_2V := And.intro (c_2.away (j := 0) (by omega)) (And.intro (c_2.away (j := 1) (by omega)) (And.intro (c_2.away (j := 6) (by omega)) (And.intro (c_2.away (j := nxi + 3) (by omega)) (c_2.away (j := nxi + 8) (by omega)))))
      have w_c_2c := c_2.cell.1
      have w_c_2d := c_2.cell.2
      have w_c_2e := c_2.beq
      have w_c_3V := And.intro (c_3.away (j := 0) (by omega)) (And.intro (c_3.away (j := 1) (by omega)) (And.intro (c_3.away (j := 6) (by omega)) (And.intro (c_3.away (j := nxi + 3) (by omega)) (c_3.away (j := nxi + 8) (by omega)))))
      have w_c_3c := c_3.cell.1
      have w_c_3d := c_3.cell.2
      have w_c_3e := c_3.beq
      by_cases hz : z < r.clauses[i].body.length
      · have hD := fun st => dupS_ok (hs.2.2 _ (List.getElem_mem hz)) st
        simp only [hz, iaddr_pat hz, hD, w_len, w_47, w_6, w_45, w_46, w_cc4, w_cN, w_c_1e, w_c_3e, ↓LA, LB, simprocAttr]
        refine pv_app c_1 ?_ (elts_map fun a => elt_pat) sget_cons_eq ?_ ?_ ?_ ?_ ?_ fun chc0 hc0 => ?_
        · intro j h1 h2; simp (disch := omega) only [sget_cons_ne]
        · rfl
        · omega
        · simp; omega
        · simp; omega
        · exact rfl
        simp only [wrap_succ hz (by omega), w_len, w_47, w_6, w_cc4, w_cN, w_c_1V, ↓LA, LB, simprocAttr]
        have hn : (r.clauses[i].body.take (z + 1)).map PatT.d = (r.clauses[i].body.take z).map PatT.d ++ [r.clauses[i].body[z].d] := by rw [take_snoc hz, List.map_append]; rfl
        exact nx_intro (by refine ⟨_, by omega, z + 1, _, _, _, .arr (nxz + 14) 2 true 0 (((r.clauses[i].body.take z).map PatT.d).length + 1), rfl, by omega, (by rw [hn]; exact gr_part hc0 (by intro j h1 h2 h3; simp (disch := omega) only [sget_cons_ne, sget_sset_nn, sget_grow_nn h3]) (by omega) (by omega) (by omega) sget_cons_eq rfl ⟨CV.str, CV.data, trivial⟩), c_2.frame (by intro j h1 h2; simp (disch := omega) only [sget_cons_ne, sget_sset_nn, sget_grow_nn (c_1.away (j := j) (by omega))]), c_3.frame (by intro j h1 h2; simp (disch := omega) only [sget_cons_ne, sget_sset_nn, sget_grow_nn (c_1.away (j := j) (by omega))]), ?_, ?_, ?_, ?_, ?_, (by omega), Nat.zero_le _, ?_, ?_, ?_, ?_, ?_, ?_, ?_, ?_, ?_, ?_, ?_, ?_, rfl⟩ <;> simp only [w_len, w_1, w_2, w_3, w_5, w_6, w_16, w_17, w_18, w_45, w_46, w_cc0, w_cc1, w_cc2, w_cc3, w_cc4, w_cN, w_aN, w_c_1V, LB, simprocAttr])
      · have ht : r.clauses[i].body.take z = r.clauses[i].body := List.take_of_length_le (by omega)
        have hgc := c_1
        rw [ht] at hgc
        simp only [hz, w_len, w_47, w_3, w_6, w_46, w_cc2, w_cc4, w_c_1c, w_c_3c, ↓LA, LB, simprocAttr]
        refine pv_app c_2 ?_ (elts_map fun a => elt_clause) sget_cons_eq ?_ ?_ ?_ ?_ ?_ fun chc0 hc0 => ?_
        · intro j h1 h2; simp (disch := omega) only [sget_cons_ne]
        · rfl
        · omega
        · simp; omega
        · simp; omega
        · simp only [List.all_cons, List.all_nil, ic_str, w_c_1c, w_c_3c, Bool.and_self]
        simp only [wrap_succ hi (by omega), w_len, w_3, w_18, w_cc2, w_cN, w_c_2V, ↓LA, LB, simprocAttr]
        have hn : (r.clauses.take (i + 1)).map ClauseT.d = (r.clauses.take i).map ClauseT.d ++ [r.clauses[i].d] := by rw [take_snoc hi, List.map_append]; rfl
        exact nx_intro (by refine ⟨_, by omega, i + 1, _, _, _, .arr (nxz + 5) 3 true 0 (((r.clauses.take i).map ClauseT.d).length + 1), rfl, by omega, (by rw [hn]; exact gr_part hc0 (by intro j h1 h2 h3; simp (disch := omega) only [sget_cons_ne, sget_sset_nn, sget_grow_nn h3]) (by omega) (by omega) (by omega) sget_cons_eq rfl ⟨CV.str, CV.lo (by omega) (CV.hi ((c_3.frame (by intro j h1 h2; simp (disch := omega) only [sget_cons_ne, sget_sset_nn, sget_grow_nn (c_2.away (j := j) (by omega))])).cv (by omega) (elts_map fun a => elt_pat)) (by omega)), CV.lo (by omega) (CV.hi ((hgc.frame (by intro j h1 h2; simp (disch := omega) only [sget_cons_ne, sget_sset_nn, sget_grow_nn (c_2.away (j := j) (by omega))])).cv (by omega) (elts_map fun a => elt_pat)) (by omega)), trivial⟩), ?_, ?_, ?_, (by omega), Nat.zero_le _, ?_, ?_, ?_, ?_, ?_, ?_, ?_, rfl⟩ <;> simp only [w_len, w_1, w_2, w_3, w_16, w_17, w_cc0, w_cc1, w_cc2, w_cN, w_c_2V, LB, simprocAttr])
  · have ht : r.clauses.take i = r.clauses := List.take_of_length_le (by omega)
    have hga := a_1
    rw [ht] at hga
    simp only [hi, w_len, w_18, w_2, w_3, w_17, w_ac1, w_ac2, w_aS, w_a_1c, ↓LA, LB, simprocAttr]
    refine rql1 (x := r.d) (snap_mk (lv := false) (lo := 8) (n := 2) (hi := nxi) (m := 11) (by omega) (by decide) ⟨CV.data, (hga.frame (by intro j h1 h2; simp (disch := omega) only [sget_sset_nn])).cv (by omega) (elts_map fun a => elt_clause), trivial⟩) rfl
end Go.Lift.K
namespace Go.Lift.K
open Go Go.Lift
set_option maxRecDepth 100000
def tyName (i : Nat) : List Nat := [115, 97 + i]
def tyVars (n : Nat) : List (List Nat) := (List.range n).map fun j => [97 + j]
def tyAtom (x : NodeT) (j : Nat) : PatT := ⟨tyName (x.kids.getD j 0).toNat, [[97 + j]]⟩
def tyClause (i : Nat) (x : NodeT) : ClauseT := ⟨tyName i, [⟨x.name, tyVars x.kids.length⟩], (List.range x.kids.length).map (tyAtom x)⟩
def tyRel (t : TypeT) (i : Nat) : RelT := ⟨tyName i, 1, (t.sorts.getD i ⟨0, []⟩).rank⟩
def tyRels (t : TypeT) (n : Nat) : List RelT := (List.range n).map (tyRel t)
def tyClauses (t : TypeT) (n : Nat) : List ClauseT := (List.range n).flatMap fun i => (t.sorts.getD i ⟨0, []⟩).alts.map (tyClause i)
def specTyped (t : TypeT) : RulesT × Int := if specType t ≠ 0 then (⟨[], []⟩, specType t) else
  if (8 : Int) < t.sorts.length ∨ (24 : Int) < (tyClauses t t.sorts.length).length then (⟨[], []⟩, 2) else (⟨tyRels t t.sorts.length, tyClauses t t.sorts.length⟩, 0)
theorem bin_sadd11 {a b : Nat} : binV .add (.d (.str [a])) (.d (.str [b])) = some (.d (.str [a, b])) := by simp [binV, binS]
theorem az_at {i : Nat} (hi : i < 26) : ([97, 98, 99, 100, 101, 102, 103, 104, 105, 106, 107, 108, 109, 110, 111, 112, 113, 114, 115, 116, 117, 118, 119, 120, 121, 122] : List Nat)[i] = 97 + i := by
  have : ∀ i : Fin 26, ([97, 98, 99, 100, 101, 102, 103, 104, 105, 106, 107, 108, 109, 110, 111, 112, 113, 114, 115, 116, 117, 118, 119, 120, 121, 122] : List Nat)[i.val]'i.isLt = 97 + i.val := by decide
  exact this ⟨i, hi⟩
theorem abcd_at {i : Nat} (hi : i < 4) {k k' : IntKind} {st : St} : sliceSV (.d (.str [97, 98, 99, 100])) (some (.d (.int k i))) (some (.d (.int k' ((i + 1 : Nat) : Int)))) st = some (.d (.str [97 + i]), st) := by
  have : ∀ i : Fin 4, ([97, 98, 99, 100] : List Nat)[i.val]'i.isLt = 97 + i.val := by decide
  rw [slice_at (by simpa using hi), this ⟨i, hi⟩]
theorem sortName_ok {i : Nat} (hi : i < 26) (st : St) : callW G (.fn 58 [] []) [.d (.int .i64 i)] st = some (.d (.str (tyName i)), st) := by
  have hL : ∀ st, sliceSV (.d (.str [97, 98, 99, 100, 101, 102, 103, 104, 105, 106, 107, 108, 109, 110, 111, 112, 113, 114, 115, 116, 117, 118, 119, 120, 121, 122])) (some (.d (.int .i64 i))) (some (.d (.int .i64 ((i + 1 : Nat) : Int)))) st = some (.d (.str [97 + i]), st) := fun st => by
    rw [slice_at (by simpa using hi), az_at hi]
  refine pure_pc (ds := [.int .i64 i]) (rs := [.str (tyName i)]) T1.g58 rfl rfl (fun e w_len harg => ?_) st
  have w_len : e.length = 8 := w_len
  have w_0 := harg 0 (by simp)
  clear harg
  simp only [List.map_cons, List.map_nil, List.getD_cons_zero] at w_0
  simp only [T1.i58, wrap_succ hi (by omega), hL, bin_sadd11, w_len, w_0, ↓LA, LB, simprocAttr]
  exact rq1 (by rfl)
theorem type_right {t : TypeT} (h : specType t = 0) : t.sorts.length ≤ 24 ∧ (∀ s ∈ t.sorts, s.alts.length ≤ 6 ∧ ∀ x ∈ s.alts, x.kids.length ≤ 4 ∧ isName x.name = true ∧ ∀ k ∈ x.kids, inR t.sorts.length k = true) := by
  unfold specType at h
  split at h
  · cases h
  rename_i h1
  split at h
  · cases h
  split at h
  · cases h
  rename_i h3
  split at h
  · cases h
  rename_i h4
  simp only [not_or, Bool.not_eq_false] at h1 h3 h4
  obtain ⟨⟨_, h1a⟩, h1b⟩ := h1
  rw [List.all_eq_true] at h1b h3
  have h4b := h4.2
  rw [List.all_eq_true] at h4b
  refine ⟨by omega, fun s hs => ?_⟩
  have k1 := h1b s hs
  simp only [fewA, Bool.and_eq_true, decide_eq_true_eq, List.all_eq_true] at k1
  refine ⟨k1.1, fun x hx => ⟨by simpa [fewK] using k1.2 x hx, ?_, ?_⟩⟩
  · have := h3 s hs
    simp only [nmdA, List.all_eq_true] at this
    exact this x hx
  · have := h4b s hs
    simp only [kidsIn, List.all_eq_true] at this
    exact this x hx
theorem tyRels_succ {t : TypeT} {i : Nat} : tyRels t (i + 1) = tyRels t i ++ [tyRel t i] := by simp [tyRels, List.range_succ]
theorem tyRels_len {t : TypeT} {i : Nat} : (tyRels t i).length = i := by simp [tyRels]
theorem tyVars_succ {n : Nat} : tyVars (n + 1) = tyVars n ++ [[97 + n]] := by simp [tyVars, List.range_succ]
theorem tyVars_len {n : Nat} : (tyVars n).length = n := by simp [tyVars]
theorem tyClauses_succ {t : TypeT} {i : Nat} (hi : i < t.sorts.length) : tyClauses t (i + 1) = tyClauses t i ++ t.sorts[i].alts.map (tyClause i) := by
  simp [tyClauses, List.range_succ, hi]
theorem tyClauses_le {t : TypeT} (h : ∀ s ∈ t.sorts, s.alts.length ≤ 6) : ∀ {i : Nat}, i ≤ t.sorts.length → (tyClauses t i).length ≤ 6 * i
  | 0, _ => by simp [tyClauses]
  | i + 1, hi => by
    rw [tyClauses_succ (by omega), List.length_append, List.length_map]
    have := tyClauses_le h (i := i) (by omega)
    have := h _ (List.getElem_mem (show i < t.sorts.length by omega))
    omega
theorem kid_nat {n : Nat} {k : Int} (h : inR n k = true) : k = (k.toNat : Int) ∧ k.toNat < n := by
  simp [inR] at h
  omega
end Go.Lift.K
namespace Go.Lift.K
open Go Go.Lift
set_option maxRecDepth 100000
theorem typed12_ok {t : TypeT} (ht : t.ok) (st : St) : callW G (.fn 13 [] []) [.d t.d] st = some (.tup [.d (specTyped t).1.d, .d (.int .i64 (specTyped t).2)], st) := by
  have hC := fun st => check05_ok ht st
  simp only [TypeT.d] at hC
  refine pure_pc (ds := [t.d]) (rs := [(specTyped t).1.d, .int .i64 (specTyped t).2]) T1.g13 rfl rfl (fun e w_len harg => ?_) st
  have w_len : e.length = 121 := w_len
  have w_0 := harg 0 (by simp)
  clear harg
  simp only [List.map_cons, List.map_nil, List.getD_cons_zero] at w_0
  by_cases h0 : specType t = 0
  · obtain ⟨hsl, hsa⟩ := type_right h0
    simp only [T1.i13, TypeT.d, hC, h0, w_len, w_0, ↓LA, LB, simprocAttr]
    refine lp_rounds (fun e0 s0 m env st => ∃ (i nxi lwi : Nat) (si : List (Nat × Obj)) (xr xc : V), m = t.sorts.length - i ∧ (i ≤ t.sorts.length) ∧ (GP si false (fun j => 9 ≤ j ∧ j < nxi ∧ ¬ away xr j) 0 3 true xr ((tyRels t i).map RelT.d)) ∧ (GP si false (fun j => 9 ≤ j ∧ j < nxi ∧ away xr j) 2 3 true xc ((tyClauses t i).map ClauseT.d)) ∧ sget si (0) = some (.cells [.d (.sl (t.sorts.map SortT.d)), .d (.int .i64 t.start)]) ∧ sget si (1) = some (.cells [.nilS, .nilS]) ∧ sget si (8) = some (.cells [xr, xc]) ∧ 9 ≤ nxi ∧ 0 ≤ lwi ∧ env.length = 121 ∧ env.getD 6 .undef = .d (.int .i64 i) ∧ env.getD 1 .undef = .ptr 0 0 ∧ env.getD 2 .undef = .ptr 1 0 ∧ env.getD 5 .undef = .ptr 8 0 ∧ st = { s := si, next := nxi, low := lwi }) ?_ (t.sorts.length) (by refine ⟨0, _, _, _, .nilS, .nilS, rfl, by omega, GP.nil, GP.nil, ?_, ?_, ?_, (by omega), Nat.zero_le _, ?_, ?_, ?_, ?_, ?_, rfl⟩ <;> simp only [w_len, LB, simprocAttr])
    rintro m env st ⟨i, nxi, lwi, si, xr, xc, hm, a_0, a_1, a_2, w_ac0, w_ac1, w_ac2, w_ab, w_alo, w_len, w_6, w_1, w_2, w_5, rfl⟩
    have w_aN := And.intro (cf1 (x := nxi) (a := 0) (by omega)) (And.intro (cf1 (x := nxi) (a := 1) (by omega)) (cf1 (x := nxi) (a := 8) (by omega)))
    have w_aS := And.intro (cf2 (x := nxi) (by omega) w_ac0) (And.intro (cf2 (x := nxi) (by omega) w_ac1) (cf2 (x := nxi) (by omega) w_ac2))
    have w_aZ := zf0 (x := nxi) (n := 9) (by omega)
    have w_a_1V := And.intro (a_1.away (j := 0) (by omega)) (And.intro (a_1.away (j := 1) (by omega)) (a_1.away (j := 8) (by omega)))
    have w_a_1c := a_1.cell.1
    have w_a_1d := a_1.cell.2
    have w_a_1e := a_1.beq
    have w_a_2V := And.intro (a_2.away (j := 0) (by omega)) (And.intro (a_2.away (j := 1) (by omega)) (a_2.away (j := 8) (by omega)))
    have w_a_2c := a_2.cell.1
    have w_a_2d := a_2.cell.2
    have w_a_2e := a_2.beq
    by_cases hi : i < t.sorts.length
    · have hs := hsa _ (List.getElem_mem hi)
      have hrel : tyRel t i = ⟨tyName i, 1, t.sorts[i].rank⟩ := by simp [tyRel, hi]
      have hsn := fun st => sortName_ok (i := i) (by omega) st
      have hcl := tyClauses_le (fun s hs => (hsa s hs).1) (i := i) (by omega)
      have hcl1 := (ht.2.1 _ (List.getElem_mem hi)).2.1
      unfold LOk at hcl1
      simp only [hi, iaddr_sort hi, hsn, w_len, w_6, w_1, w_5, w_ac0, w_ac2, w_aN, w_a_1e, w_a_2e, ↓LA, LB, simprocAttr]
      refine pv_appP a_1 ?_ (elts_map fun a => elt_rel) sget_cons_eq ?_ ?_ ?_ ?_ ?_ fun chc0 hc0 => ?_
      · intro j hj; obtain ⟨h1, h2, h3⟩ := hj; simp (disch := omega) only [sget_cons_ne]
      · rfl
      · omega
      · simp [tyRels_len]; omega
      · simp [tyRels_len]; omega
      · exact rfl
      simp only [List.length_map, tyRels_len, w_len, w_5, w_ac2, w_aN, w_a_1V, ↓LA, LB, simprocAttr]
      refine lp_rounds (fun e0 s0 m env st => ∃ (k nxk lwk : Nat) (sk : List (Nat × Obj)) (xc : V), m = t.sorts[i].alts.length - k ∧ (k ≤ t.sorts[i].alts.length) ∧ (GP sk false (fun j => 9 ≤ j ∧ j < nxk ∧ nxi + 17 = j) 0 3 true (.arr (nxi + 17) 3 true 0 (i + 1)) ((tyRels t (i + 1)).map RelT.d)) ∧ (GP sk false (fun j => 9 ≤ j ∧ j < nxk ∧ nxi + 17 ≠ j) 2 3 true xc ((tyClauses t i ++ (t.sorts[i].alts.take k).map (tyClause i)).map ClauseT.d)) ∧ sget sk (0) = some (.cells [.d (.sl (t.sorts.map SortT.d)), .d (.int .i64 t.start)]) ∧ sget sk (1) = some (.cells [.nilS, .nilS]) ∧ sget sk (8) = some (.cells [.arr (nxi + 17) 3 true 0 (i + 1), xc]) ∧ nxi + 21 ≤ nxk ∧ 0 ≤ lwk ∧ env.length = 121 ∧ env.getD 7 .undef = .d (.int .i64 k) ∧ env.getD 1 .undef = .ptr 0 0 ∧ env.getD 2 .undef = .ptr 1 0 ∧ env.getD 5 .undef = .ptr 8 0 ∧ env.getD 6 .undef = .d (.int .i64 i) ∧ st = { s := sk, next := nxk, low := lwk }) ?_ (t.sorts[i].alts.length) (by refine ⟨0, _, _, _, xc, rfl, by omega, gp_more0 [RelT.d ⟨tyName i, 1, t.sorts[i].rank⟩] hc0 (by exact ⟨by omega, by omega, rfl⟩) sget_cons_eq (by simp [tyRels_len]) (by rw [tyRels_succ, List.map_append, hrel]; rfl) (by exact ⟨CQ.str, CQ.int, CQ.int, trivial⟩), by simpa using (a_2.frame (by intro j hj; obtain ⟨h1, h2, h3⟩ := hj; simp (disch := omega) only [sget_cons_ne, sget_sset_nn, sget_grow_nn h3])).mono (fun j hj => ⟨hj.1, by have := hj.2.1; omega, by have := hj.2.1; omega⟩), ?_, ?_, ?_, (by omega), Nat.zero_le _, ?_, ?_, ?_, ?_, ?_, ?_, rfl⟩ <;> simp only [w_len, w_6, w_1, w_2, w_5, w_ac0, w_ac1, w_ac2, w_aN, w_a_1V, LB, simprocAttr])
      rintro m env st ⟨k, nxk, lwk, sk, xc, hm, b_0, b_1, b_2, w_bc0, w_bc1, w_bc2, w_bb, w_blo, w_len, w_7, w_1, w_2, w_5, w_6, rfl⟩
      have w_bN := And.intro (cf1 (x := nxk) (a := 0) (by omega)) (And.intro (cf1 (x := nxk) (a := 1) (by omega)) (cf1 (x := nxk) (a := 8) (by omega)))
      have w_bS := And.intro (cf2 (x := nxk) (by omega) w_bc0) (And.intro (cf2 (x := nxk) (by omega) w_bc1) (cf2 (x := nxk) (by omega) w_bc2))
      have w_bZ := And.intro (zf (x := nxk) (b := nxi) (n := 21) (by omega) (by omega)) (zf0 (x := nxk) (n := 9) (by omega))
      have w_b_2V := And.intro (b_2.away (j := 0) (by omega)) (And.intro (b_2.away (j := 1) (by omega)) (And.intro (b_2.away (j := 8) (by omega)) (b_2.away (j := nxi + 17) (by omega))))
      have w_b_2c := b_2.cell.1
      have w_b_2d := b_2.cell.2
      have w_b_2e := b_2.beq
      by_cases hk : k < t.sorts[i].alts.length
      · have hx := hs.2 _ (List.getElem_mem hk)
        have hxl := hx.1
        simp only [hk, iaddr_sort hi, iaddr_node hk, hsn, w_len, w_7, w_1, w_6, w_bc0, ↓LA, LB, simprocAttr]
        refine lp_rounds (fun e0 s0 m env st => ∃ (j nxj lwj : Nat) (sj : List (Nat × Obj)) (xv xb : V), m = t.sorts[i].alts[k].kids.length - j ∧ (j ≤ t.sorts[i].alts[k].kids.length) ∧ (GP sj false (fun q => nxk + 30 ≤ q ∧ q < nxj ∧ ¬ away xv q) 0 1 false xv ((tyVars j).map D.str)) ∧ (GP sj false (fun q => nxk + 30 ≤ q ∧ q < nxj ∧ away xv q) 1 2 true xb (((List.range j).map (tyAtom t.sorts[i].alts[k])).map PatT.d)) ∧ (GP sj false (fun q => 9 ≤ q ∧ q < nxk ∧ nxi + 17 = q) 0 3 true (.arr (nxi + 17) 3 true 0 (i + 1)) ((tyRels t (i + 1)).map RelT.d)) ∧ (GP sj false (fun q => 9 ≤ q ∧ q < nxk ∧ nxi + 17 ≠ q) 2 3 true xc ((tyClauses t i ++ (t.sorts[i].alts.take k).map (tyClause i)).map ClauseT.d)) ∧ sget sj (0) = some (.cells [.d (.sl (t.sorts.map SortT.d)), .d (.int .i64 t.start)]) ∧ sget sj (1) = some (.cells [.nilS, .nilS]) ∧ sget sj (8) = some (.cells [.arr (nxi + 17) 3 true 0 (i + 1), xc]) ∧ sget sj (nxk + 18) = some (.cells [.d (.str t.sorts[i].alts[k].name), .d (.sl (t.sorts[i].alts[k].kids.map (D.int .i64)))]) ∧ sget sj (nxk + 25) = some (.cells [.d (.str t.sorts[i].alts[k].name), xv]) ∧ sget sj (nxk + 27) = some (.cells [.d (.str (tyName i)), .arr (nxk + 25) 2 true 0 1, xb]) ∧ nxk + 30 ≤ nxj ∧ 0 ≤ lwj ∧ env.length = 121 ∧ env.getD 10 .undef = .d (.int .i64 j) ∧ env.getD 1 .undef = .ptr 0 0 ∧ env.getD 2 .undef = .ptr 1 0 ∧ env.getD 5 .undef = .ptr 8 0 ∧ env.getD 6 .undef = .d (.int .i64 i) ∧ env.getD 7 .undef = .d (.int .i64 k) ∧ env.getD 8 .undef = .ptr (nxk + 18) 0 ∧ env.getD 9 .undef = .ptr (nxk + 27) 0 ∧ st = { s := sj, next := nxj, low := lwj }) ?_ (t.sorts[i].alts[k].kids.length) (by refine ⟨0, _, _, _, .nilS, .nilS, rfl, by omega, GP.nil, GP.nil, b_1.frame (by intro q hq; obtain ⟨h1, h2, h3⟩ := hq; simp (disch := omega) only [sget_cons_ne]), b_2.frame (by intro q hq; obtain ⟨h1, h2, h3⟩ := hq; simp (disch := omega) only [sget_cons_ne]), ?_, ?_, ?_, ?_, ?_, ?_, (by omega), Nat.zero_le _, ?_, ?_, ?_, ?_, ?_, ?_, ?_, ?_, ?_, rfl⟩ <;> simp only [w_len, w_7, w_1, w_2, w_5, w_6, w_bc0, w_bc1, w_bc2, w_bN, LB, simprocAttr])
        rintro m env st ⟨j, nxj, lwj, sj, xv, xb, hm, c_0, c_1, c_2, c_3, c_4, w_cc0, w_cc1, w_cc2, w_cc3, w_cc4, w_cc5, w_cb, w_clo, w_len, w_10, w_1, w_2, w_5, w_6, w_7, w_8, w_9, rfl⟩
        have w_cN := And.intro (cf1 (x := nxj) (a := 0) (by omega)) (And.intro (cf1 (x := nxj) (a := 1) (by omega)) (And.intro (cf1 (x := nxj) (a := 8) (by omega)) (And.intro (cf1 (x := nxj) (a := nxk + 18) (by omega)) (And.intro (cf1 (x := nxj) (a := nxk + 25) (by omega)) (cf1 (x := nxj) (a := nxk + 27) (by omega))))))
        have w_cS := And.intro (cf2 (x := nxj) (by omega) w_cc0) (And.intro (cf2 (x := nxj) (by omega) w_cc1) (And.intro (cf2 (x := nxj) (by omega) w_cc2) (And.intro (cf2 (x := nxj) (by omega) w_cc3) (And.intro (cf2 (x := nxj) (by omega) w_cc4) (cf2 (x := nxj) (by omega) w_cc5)))))
        have w_cZ := And.intro (zf (x := nxj) (b := nxk) (n := 30) (by omega) (by omega)) (And.intro (zf (x := nxj) (b := nxi) (n := 21) (by omega) (by omega)) (zf0 (x := nxj) (n := 9) (by omega)))
        have w_c_1V := And.intro (c_1.away (j := 0) (by omega)) (And.intro (c_1.away (j := 1) (by omega)) (And.intro (c_1.away (j := 8) (by omega)) (And.intro (c_1.away (j := nxk + 18) (by omega)) (And.intro (c_1.away (j := nxk + 25) (by omega)) (c_1.away (j := nxk + 27) (by omega))))))
        have w_c_1c := c_1.cell.1
        have w_c_1d := c_1.cell.2
        have w_c_1e := c_1.beq
        have w_c_2V := And.intro (c_2.away (j := 0) (by omega)) (And.intro (c_2.away (j := 1) (by omega)) (And.intro (c_2.away (j := 8) (by omega)) (And.intro (c_2.away (j := nxk + 18) (by omega)) (And.intro (c_2.away (j := nxk + 25) (by omega)) (c_2.away (j := nxk + 27) (by omega))))))
        have w_c_2c := c_2.cell.1
        have w_c_2d := c_2.cell.2
        have w_c_2e := c_2.beq
        have w_c_4V := And.intro (c_4.away (j := 0) (by omega)) (And.intro (c_4.away (j := 1) (by omega)) (And.intro (c_4.away (j := 8) (by omega)) (And.intro (c_4.away (j := nxk + 18) (by omega)) (And.intro (c_4.away (j := nxk + 25) (by omega)) (c_4.away (j := nxk + 27) (by omega))))))
        have w_c_4c := c_4.cell.1
        have w_c_4d := c_4.cell.2
        have w_c_4e := c_4.beq
        by_cases hj : j < t.sorts[i].alts[k].kids.length
        · have hkd := kid_nat (hx.2.2 _ (List.getElem_mem hj))
          have hkn : ∀ st, callW G (.fn 58 [] []) [.d (.int .i64 t.sorts[i].alts[k].kids[j])] st = some (.d (.str (tyName t.sorts[i].alts[k].kids[j].toNat)), st) := fun st => by
            have := sortName_ok (i := t.sorts[i].alts[k].kids[j].toNat) (by omega) st
            rwa [← hkd.1] at this
          have hab := fun (st : St) => abcd_at (i := j) (k := .i64) (k' := .i64) (by omega) (st := st)
          have hatom : tyAtom t.sorts[i].alts[k] j = ⟨tyName t.sorts[i].alts[k].kids[j].toNat, [[97 + j]]⟩ := by simp [tyAtom, hj]
          simp only [hj, hab, wrap_succ hj (by omega), w_len, w_10, w_8, w_9, w_cc3, w_cc4, w_cc5, w_cN, w_c_1e, w_c_2e, ↓LA, LB, simprocAttr]
          refine pv_appP c_1 ?_ (elts_map fun a => elt_str) sget_cons_eq ?_ ?_ ?_ ?_ ?_ fun chcv hcv => ?_
          · intro j hj; obtain ⟨h1, h2, h3⟩ := hj; simp (disch := omega) only [sget_cons_ne]
          · rfl
          · omega
          · simp [tyVars_len]; omega
          · simp [tyVars_len]; omega
          · exact rfl
          simp only [iaddr_int hj, hkn, List.length_map, tyVars_len, w_len, w_10, w_8, w_9, w_cc3, w_cc4, w_cc5, w_cN, w_c_1V, w_c_2e, ↓LA, LB, simprocAttr]
          refine pv_appP c_2 ?_ (elts_map fun a => elt_pat) sget_cons_eq ?_ ?_ ?_ ?_ ?_ fun chcb hcb => ?_
          · intro j hj; obtain ⟨h1, h2, h3⟩ := hj; simp (disch := omega) only [sget_cons_ne, sget_sset_nn, sget_grow_nn h3]
          · rfl
          · omega
          · simp; omega
          · simp; omega
          · exact rfl
          simp only [wrap_succ hj (by omega), List.length_map, List.length_range, w_len, w_10, w_9, w_cc5, w_cN, w_c_1V, w_c_2V, ↓LA, LB, simprocAttr]
          exact nx_intro (by refine ⟨_, by omega, j + 1, _, _, _, .arr (nxj + 19) 1 false 0 (j + 1), .arr (nxj + 35) 2 true 0 (j + 1), rfl, by omega, gp_more0 [D.str [97 + j]] (ys := [.d (.str [97 + j])]) hcv (by exact ⟨by omega, by omega, fun h => h rfl⟩) (by simp (disch := omega) only [sget_cons_ne, sget_cons_eq, sget_sset_nn, sget_grow_nn (c_2.away (j := nxj + 19) (by omega))]) (by simp [tyVars_len]) (by rw [tyVars_succ, List.map_append]; rfl) (by exact ⟨CQ.str, trivial⟩), gp_more [PatT.d ⟨tyName t.sorts[i].alts[k].kids[j].toNat, [[97 + j]]⟩] (ys := [.d (.str (tyName t.sorts[i].alts[k].kids[j].toNat)), .arr (nxj + 32) 1 false 0 1]) hcb (by intro q hq h4; obtain ⟨h1, h2, h3⟩ := hq; simp (disch := omega) only [sget_cons_ne, sget_sset_nn, sget_grow_nn h4, sget_grow_nn h3]) (by intro q hq; exact ⟨hq.1, by have := hq.2.1; omega, by have := hq.2.1; show nxj + 19 ≠ q; omega⟩) (by exact ⟨by omega, by omega, by show nxj + 19 ≠ nxj + 35; omega⟩) (by intro hq; have := hq.2.1; omega) sget_cons_eq (by simp) (by rw [List.range_succ, List.map_append, List.map_append, ← hatom]; rfl) (by exact ⟨CQ.str, cq_arr [D.str [97 + j]] (cs := [.d (.str [97 + j])]) (by exact ⟨⟨by omega, by omega, by show nxj + 19 ≠ nxj + 32; omega⟩, by omega⟩) (by simp (disch := omega) only [sget_cons_ne, sget_cons_eq, sget_sset_nn, sget_grow_nn (c_2.away (j := nxj + 32) (by omega))]) (by omega) (by intro x hx; simp at hx; subst hx; exact elt_str) rfl (by exact ⟨CQ.str, trivial⟩), trivial⟩), c_3.frame (by intro q hq; obtain ⟨h1, h2, h3⟩ := hq; simp (disch := omega) only [sget_cons_ne, sget_sset_nn, sget_grow_nn (c_1.away (j := q) (by omega)), sget_grow_nn (c_2.away (j := q) (by omega))]), c_4.frame (by intro q hq; obtain ⟨h1, h2, h3⟩ := hq; simp (disch := omega) only [sget_cons_ne, sget_sset_nn, sget_grow_nn (c_1.away (j := q) (by omega)), sget_grow_nn (c_2.away (j := q) (by omega))]), ?_, ?_, ?_, ?_, ?_, ?_, (by omega), Nat.zero_le _, ?_, ?_, ?_, ?_, ?_, ?_, ?_, ?_, ?_, rfl⟩ <;> simp only [w_len, w_1, w_2, w_5, w_6, w_7, w_8, w_9, w_cc0, w_cc1, w_cc2, w_cc3, w_cc4, w_cc5, w_cN, w_bN, w_c_1V, w_c_2V, LB, simprocAttr])
        · have hjn : j = t.sorts[i].alts[k].kids.length := by omega
          rw [hjn] at c_1 c_2
          simp only [hj, w_len, w_10, w_5, w_8, w_9, w_cc2, w_cc3, w_cc5, w_c_2c, ↓LA, LB, simprocAttr]
          refine pv_appP c_4 ?_ (elts_map fun a => elt_clause) sget_cons_eq ?_ ?_ ?_ ?_ ?_ fun chcc hcc => ?_
          · intro j hj; obtain ⟨h1, h2, h3⟩ := hj; simp (disch := omega) only [sget_cons_ne]
          · rfl
          · omega
          · simp; omega
          · simp; omega
          · simp only [List.all_cons, List.all_nil, ic_str, ic_arr, w_c_2c, Bool.and_self]
          simp only [wrap_succ hk (by omega), List.length_map, w_len, w_5, w_7, w_cc2, w_cN, w_c_4V, ↓LA, LB, simprocAttr]
          have hmon : ∀ q, (nxk + 30 ≤ q ∧ q < nxj) → (9 ≤ q ∧ q < nxj + 15 ∧ nxi + 17 ≠ q) ∧ q ≠ nxj + 9 := fun q hq => by omega
          exact nx_intro (by refine ⟨_, by omega, k + 1, _, _, _, .arr (nxj + 9) 3 true 0 ((tyClauses t i ++ (t.sorts[i].alts.take k).map (tyClause i)).length + 1), rfl, by omega, (c_3.frame (by intro q hq; obtain ⟨h1, h2, h3⟩ := hq; simp (disch := omega) only [sget_cons_ne, sget_sset_nn, sget_grow_nn (c_4.away (j := q) (by omega))])).mono (fun q hq => ⟨hq.1, by have := hq.2.1; omega, hq.2.2⟩), gp_more [ClauseT.d (tyClause i t.sorts[i].alts[k])] (ys := [.d (.str (tyName i)), .arr (nxk + 25) 2 true 0 1, xb]) hcc (by intro q hq h4; obtain ⟨h1, h2, h3⟩ := hq; simp (disch := omega) only [sget_cons_ne, sget_sset_nn, sget_grow_nn h4]) (by intro q hq; exact ⟨hq.1, by have := hq.2.1; omega, hq.2.2⟩) (by exact ⟨by omega, by omega, by omega⟩) (by intro hq; have := hq.2.1; omega) sget_cons_eq (by simp) (by rw [take_snoc hk]; simp only [List.map_append, List.map_cons, List.map_nil, List.append_assoc]) (by exact ⟨CQ.str, cq_arr [PatT.d ⟨t.sorts[i].alts[k].name, tyVars t.sorts[i].alts[k].kids.length⟩] (cs := [.d (.str t.sorts[i].alts[k].name), xv]) (by exact ⟨⟨by omega, by omega, by omega⟩, by omega⟩) (by simp (disch := omega) only [sget_cons_ne, sget_sset_nn, sget_grow_nn (c_4.away (j := nxk + 25) (by omega)), w_cc4]) (by omega) (by intro x hx; simp at hx; subst hx; exact elt_pat) rfl (by exact ⟨CQ.str, CQ.mono (fun q hq => hmon q ⟨hq.1, hq.2.1⟩) ((c_1.frame (by intro q hq; obtain ⟨h1, h2, h3⟩ := hq; simp (disch := omega) only [sget_cons_ne, sget_sset_nn, sget_grow_nn (c_4.away (j := q) (by omega))])).cv (by omega) (elts_map fun a => elt_str)), trivial⟩), CQ.mono (fun q hq => hmon q ⟨hq.1, hq.2.1⟩) ((c_2.frame (by intro q hq; obtain ⟨h1, h2, h3⟩ := hq; simp (disch := omega) only [sget_cons_ne, sget_sset_nn, sget_grow_nn (c_4.away (j := q) (by omega))])).cv (by omega) (elts_map fun a => elt_pat)), trivial⟩), ?_, ?_, ?_, (by omega), Nat.zero_le _, ?_, ?_, ?_, ?_, ?_, ?_, rfl⟩ <;> simp only [w_len, w_1, w_2, w_5, w_6, w_cc0, w_cc1, w_cc2, w_cN, w_c_4V, LB, simprocAttr])
      · have ht : t.sorts[i].alts.take k = t.sorts[i].alts := List.take_of_length_le (by omega)
        rw [ht, ← tyClauses_succ hi] at b_2
        simp only [hk, iaddr_sort hi, wrap_succ hi (by omega), w_len, w_7, w_1, w_6, w_bc0, ↓LA, LB, simprocAttr]
        exact nx_intro (by refine ⟨_, by omega, i + 1, _, _, _, .arr (nxi + 17) 3 true 0 (i + 1), xc, rfl, by omega, b_1.mono (fun q hq => ⟨hq.1, by have := hq.2.1; omega, fun h => h hq.2.2⟩), b_2.mono (fun q hq => ⟨hq.1, by have := hq.2.1; omega, hq.2.2⟩), ?_, ?_, ?_, (by omega), Nat.zero_le _, ?_, ?_, ?_, ?_, ?_, rfl⟩ <;> simp only [w_len, w_1, w_2, w_5, w_bc0, w_bc1, w_bc2, LB, simprocAttr])
    · have hin : i = t.sorts.length := by omega
      rw [hin] at a_1 a_2
      have hl1 := a_1.len
      have hl2 := a_2.len
      simp only [List.length_map, tyRels_len] at hl1 hl2
      by_cases h8 : (8 : Int) < t.sorts.length
      · have hS : specTyped t = (⟨[], []⟩, 2) := by rw [specTyped, if_neg (not_not_intro h0), if_pos (.inl h8)]
        simp only [hi, hl1, h8, w_len, w_6, w_1, w_2, w_5, w_ac0, w_ac1, w_ac2, w_aS, ↓LA, LB, simprocAttr]
        exact rql2 (snap_mk (lv := false) (lo := 0) (n := 1) (hi := 0) (m := 11) (ds := [.sl [], .sl []]) (by omega) (by decide) ⟨CV.nil, CV.nil, trivial⟩) rfl (by rw [hS]; rfl)
      · by_cases h24 : (24 : Int) < (tyClauses t t.sorts.length).length
        · have hS : specTyped t = (⟨[], []⟩, 2) := by rw [specTyped, if_neg (not_not_intro h0), if_pos (.inr h24)]
          simp only [hi, hl1, hl2, h8, h24, w_len, w_6, w_1, w_2, w_5, w_ac0, w_ac1, w_ac2, w_aS, ↓LA, LB, simprocAttr]
          exact rql2 (snap_mk (lv := false) (lo := 0) (n := 1) (hi := 0) (m := 11) (ds := [.sl [], .sl []]) (by omega) (by decide) ⟨CV.nil, CV.nil, trivial⟩) rfl (by rw [hS]; rfl)
        · have hS : specTyped t = (⟨tyRels t t.sorts.length, tyClauses t t.sorts.length⟩, 0) := by rw [specTyped, if_neg (not_not_intro h0), if_neg (fun h => h.elim h8 h24)]
          simp only [hi, hl1, hl2, h8, h24, w_len, w_6, w_1, w_2, w_5, w_ac0, w_ac1, w_ac2, w_aS, w_a_1c, w_a_2c, ↓LA, LB, simprocAttr]
          exact rql2 (x := RulesT.d ⟨tyRels t t.sorts.length, tyClauses t t.sorts.length⟩) (snap_mkP (lv := false) (S := fun q => 9 ≤ q) (n := 3) (m := 11) (fun j h => Nat.zero_le j) (by decide) ⟨CQ.dep (n := 1) (by omega) (((a_1.frame (by intro q hq; obtain ⟨h1, h2, h3⟩ := hq; simp (disch := omega) only [sget_sset_nn])).cv (by omega) (elts_map fun a => elt_rel)).mono fun q hq => hq.1), ((a_2.frame (by intro q hq; obtain ⟨h1, h2, h3⟩ := hq; simp (disch := omega) only [sget_sset_nn])).cv (by omega) (elts_map fun a => elt_clause)).mono fun q hq => hq.1, trivial⟩) rfl (by rw [hS])
  · have hS : specTyped t = (⟨[], []⟩, specType t) := if_pos h0
    simp only [T1.i13, TypeT.d, hC, h0, w_len, w_0, ↓LA, LB, simprocAttr]
    exact rql2 (snap_mk (lv := false) (lo := 0) (n := 1) (hi := 0) (m := 11) (ds := [.sl [], .sl []]) (by omega) (by decide) ⟨CV.nil, CV.nil, trivial⟩) rfl (by rw [hS]; rfl)
end Go.Lift.K
namespace Go.Lift.K
open Go Go.Lift
set_option maxRecDepth 100000
def LiveRules (s0 : List (Nat × Obj)) (n0 : Nat) (r : RulesT) (a b : V) (st : St) : Prop :=
  n0 ≤ st.next ∧ (∀ q, q < n0 → sget st.s q = sget s0 q) ∧ CQ st.s true (Iv n0 st.next) 1 a (.sl (r.rels.map RelT.d)) ∧ CQ st.s true (Iv n0 st.next) 3 b (.sl (r.clauses.map ClauseT.d))
def LiveRes (s0 : List (Nat × Obj)) (n0 : Nat) (r : RulesT) (err : Int) (v : V) (st : St) : Prop := ∃ a b, v = .tup [mkAgg [a, b], .d (.int .i64 err)] ∧ LiveRules s0 n0 r a b st
def LiveStrs (s0 : List (Nat × Obj)) (n0 : Nat) (l : List (List Nat)) (v : V) (st : St) : Prop := n0 ≤ st.next ∧ (∀ q, q < n0 → sget st.s q = sget s0 q) ∧ GP st.s true (Iv n0 st.next) 0 1 false v (l.map D.str)
def letters (b n : Nat) : List (List Nat) := (List.range n).map fun j => [97 + b + j]
theorem letters_len {b n : Nat} : (letters b n).length = n := by simp [letters]
theorem letters_succ {b n : Nat} : letters b (n + 1) = letters b n ++ [[97 + b + n]] := by simp [letters, List.range_succ]
theorem ah_at {i : Nat} (hi : i < 8) {st : St} : opIndexS [97, 98, 99, 100, 101, 102, 103, 104] (i : Int) = some (.d (.int .u8 ((97 + i : Nat) : Int))) := by
  have : ∀ i : Fin 8, ([97, 98, 99, 100, 101, 102, 103, 104] : List Nat)[i.val]'i.isLt = 97 + i.val := by decide
  rw [indexS_at (by simpa using hi), this ⟨i, hi⟩]
theorem letters_ok {b n : Nat} (hb : b + n ≤ 8) {s : List (Nat × Obj)} {nx lw : Nat} : PostV (callW G (.fn 64 [] []) [.d (.int .i64 b), .d (.int .i64 n)] { s := s, next := nx, low := lw }) (LiveStrs s nx (letters b n)) := by
  refine stay_pc (first := []) (args := [.d (.int .i64 b), .d (.int .i64 n)]) (cap := []) T1.g64 rfl rfl rfl (fun e w_len harg => ?_)
  have w_len : e.length = 21 := w_len
  have w_0 : e.getD 0 .undef = .d (.int .i64 b) := harg 0 (by simp)
  have w_1 : e.getD 1 .undef = .d (.int .i64 n) := harg 1 (by simp)
  clear harg
  simp only [T1.i64, w_1, ↓LA, LB, simprocAttr]
  refine lp_rounds (fun e0 s0 m env st => ∃ (i nxi lwi : Nat) (si : List (Nat × Obj)) (xl : V), m = n - i ∧ (i ≤ n) ∧ (∀ q, q < nx → sget si q = sget s q) ∧ (GP si true (Iv nx nxi) 0 1 false xl ((letters b i).map D.str)) ∧ nx + 4 ≤ nxi ∧ 0 ≤ lwi ∧ env.length = 21 ∧ env.getD 8 .undef = .d (.int .i64 i) ∧ env.getD 0 .undef = .d (.int .i64 b) ∧ env.getD 5 .undef = xl ∧ env.getD 7 .undef = .d (.int .i64 n) ∧ st = { s := si, next := nxi, low := lwi }) ?_ (n) (by refine ⟨0, _, _, _, .nilS, rfl, by omega, fun q hq => rfl, GP.nil, (by omega), Nat.zero_le _, ?_, ?_, ?_, ?_, ?_, rfl⟩ <;> simp only [w_len, w_0, LB, simprocAttr])
  rintro m env st ⟨i, nxi, lwi, si, xl, hm, a_0, a_1, a_2, w_ab, w_alo, w_len, w_8, w_0, w_5, w_7, rfl⟩
  have w_aZ := zf (x := nxi) (b := nx) (n := 4) (by omega) (by omega)
  have w_vc := a_2.cell.1
  have w_vd := a_2.cell.2
  have w_ve := a_2.beq
  by_cases hi : i < n
  · have hw : IntKind.i64.wrap ((b : Int) + i) = ((b + i : Nat) : Int) := by rw [wrap_id (by omega) (by omega)]; omega
    have hx := ah_at (i := b + i) (by omega) (st := { s := s, next := nx, low := lw })
    have hc := fun (st : St) => convSV_nat (k := .u8) (n := 97 + (b + i)) (st := st) (by omega)
    simp only [hi, hw, hx, hc, w_len, w_8, w_0, w_5, w_7, ↓LA, LB, simprocAttr]
    refine pv_appP a_2 ?_ (elts_map fun a => elt_str) sget_cons_eq ?_ ?_ ?_ ?_ ?_ fun c0 hc0 => ?_
    · intro j hj; obtain ⟨h1, h2⟩ := hj; simp (disch := omega) only [sget_cons_ne]
    · rfl
    · omega
    · simp [letters_len]; omega
    · simp [letters_len]; omega
    · exact rfl
    simp only [wrap_succ hi (by omega), List.length_map, letters_len, w_len, w_8, ↓LA, LB, simprocAttr]
    exact nx_intro (by refine ⟨_, by omega, i + 1, _, _, _, .arr (nxi + 10) 1 false 0 (i + 1), rfl, by omega, (by intro q hq; simp (disch := omega) only [sget_cons_ne, sget_grow_nn (a_2.away (j := q) (by omega))]; exact a_1 q hq), gp_more0 [D.str [97 + b + i]] (ys := [.d (.str [97 + (b + i)])]) hc0 (by exact ⟨by omega, by omega⟩) sget_cons_eq (by simp [letters_len]) (by rw [letters_succ, List.map_append]; rfl) (by rw [← Nat.add_assoc]; exact ⟨CQ.str, trivial⟩), (by omega), Nat.zero_le _, ?_, ?_, ?_, ?_, ?_, rfl⟩ <;> simp only [w_len, w_0, w_7, LB, simprocAttr])
  · have hin : i = n := by omega
    rw [hin] at a_2
    simp only [hi, w_len, w_8, w_5, w_7, ↓LA, LB, simprocAttr]
    exact ⟨by show nx ≤ nxi + 3; omega, a_1, a_2.mono (fun q hq => ⟨hq.1, by have := hq.2; show q < nxi + 3; omega⟩)⟩
theorem tyName1_ok {i : Nat} (hi : i < 26) (st : St) : callW G (.fn 63 [] []) [.d (.int .i64 i)] st = some (.d (.str (tyName i)), st) := by
  have hw1 : IntKind.i64.wrap (97 + (i : Int)) = ((97 + i : Nat) : Int) := by rw [wrap_id (by omega) (by omega)]; omega
  have hw2 : IntKind.i32.wrap ((97 + i : Nat) : Int) = ((97 + i : Nat) : Int) := wrap32_id (by omega) (by omega)
  have hc := fun (st : St) => convSV_nat (k := .i32) (n := 97 + i) (st := st) (by omega)
  refine pure_pc (ds := [.int .i64 i]) (rs := [.str (tyName i)]) T1.g63 rfl rfl (fun e w_len harg => ?_) st
  have w_len : e.length = 8 := w_len
  have w_0 := harg 0 (by simp)
  clear harg
  simp only [List.map_cons, List.map_nil, List.getD_cons_zero] at w_0
  simp only [T1.i63, hw1, hw2, hc, bin_sadd11, w_len, w_0, ↓LA, LB, simprocAttr]
  exact rq1 (by rfl)
end Go.Lift.K
