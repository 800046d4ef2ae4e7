/- Part B8 of the proof. -/
import Derived.Test.YtedmfhgagnfbnaaGreatDoorB7
import Derived.Test.YtedmfhgagnfbnaaGreatDoorA7
set_option linter.all false
namespace Go.Lift.K
open Go Go.Lift
set_option maxRecDepth 100000
def noRules : RulesT := ⟨[], []⟩
def fresh (r q : RulesT) : Bool := q.rels.all fun x => decide (relNo r.rels x.name < 0)
def specJoin (r q : RulesT) : RulesT × Int := if specCheck r ≠ 0 then (noRules, specCheck r) else if specCheck q ≠ 0 then (noRules, specCheck q) else if fresh r q = false then (noRules, 5) else
  if (8 : Int) < (r.rels.length + q.rels.length : Nat) ∨ (24 : Int) < (r.clauses.length + q.clauses.length : Nat) then (noRules, 2) else (⟨r.rels ++ q.rels, r.clauses ++ q.clauses⟩, 0)
def setRank : List RelT → Nat → Int → List RelT
  | [], _, _ => []
  | x :: l, 0, k => ⟨x.name, x.arity, k⟩ :: l
  | x :: l, n + 1, k => x :: setRank l n k
def specRanked (r : RulesT) (name : List Nat) (rank : Int) : RulesT × Int := if specCheck r ≠ 0 then (noRules, specCheck r) else if relNo r.rels name < 0 then (noRules, 1) else if rank < 0 ∨ 3 < rank then (noRules, 3) else
 (⟨setRank r.rels (relNo r.rels name).toNat rank, r.clauses⟩, 0)
theorem rules_right {r : RulesT} (h : specCheck r = 0) : 1 ≤ r.rels.length ∧ r.rels.length ≤ 8 ∧ r.clauses.length ≤ 24 := by
  unfold specCheck at h
  split at h
  · cases h
  · rename_i h1
    simp only [not_or] at h1
    omega
theorem evRR {l : List RelT} {p : RelT → Bool} {fv : V} {s : List (Nat × Obj)} {nx lw : Nat} (hl : l.length ≤ 9223372036854775807) (hc : fv.isCell = true) (hv : cellsV fv = [fv]) (h : TellsT G fv s nx RelT.d (· ∈ l) p) :
    callW G (.fn 67 [] []) [.d (.sl (l.map RelT.d)), fv] { s := s, next := nx, low := lw } = some (.d (.bool (l.all p)), { s := s, next := nx, low := lw }) :=
  everyT_ok (es := 3) (ag := true) T1.g67 T1.g30 T1.g92 (.inl T1.g130) hc hv hl (fun a _ => elt_rel) h
theorem joinC_ok {r : RulesT} (hr : LOk r.rels) {l : List RelT} {s : List (Nat × Obj)} {n0 k : Nat} (hk : k < n0) (ho : sget s k = some (.cells [.fn 66 [.d r.d] []])) : TellsT G (.fn 68 [] [.ptr k 0]) s n0 RelT.d (· ∈ l) (fun x => decide (relNo r.rels x.name < 0)) := by
  intro x _ s' nx lw hs hn
  have hne : (nx = k) = False := by simp; omega
  have ho' : sget s' k = _ := (hs k hk).trans ho
  have hN : ∀ (n : List Nat) (st : St), callW G (.fn 66 [.d r.d] []) [.d (.str n)] st = some (.d (.int .i64 (relNo r.rels n)), st) := fun n st =>
    (pure_first T1.g66 rfl rfl rfl).trans (number_ok hr st)
  refine pop_ro (first := []) (args := [.d x.d]) (cap := [.ptr k 0]) (us := [.d (.bool (decide (relNo r.rels x.name < 0)))]) T1.g68 rfl rfl rfl (fun e w_len harg => ?_)
  have w_len : e.length = 9 := w_len
  have w_0 : e.getD 0 .undef = .d x.d := harg 0 (by simp)
  have w_1 : e.getD 1 .undef = .ptr k 0 := harg 1 (by simp)
  clear harg
  simp only [T1.i68, RelT.d, hne, ho', hN, w_len, w_0, w_1, ↓LA, LB, simprocAttr]
  exact ru1 (by first | exact Nat.le_refl _ | exact le_min' (Nat.le_refl _) (by omega) | exact le_min' (le_min' (Nat.le_refl _) (by omega)) (by omega)) rfl
theorem take_two {α : Type} {a b : α} {p : Nat} : [a, b].take p = [] ∨ [a, b].take p = [a] ∨ [a, b].take p = [a, b] := by
  match p with
  | 0 => exact .inl rfl
  | 1 => exact .inr (.inl rfl)
  | p + 2 => exact .inr (.inr (by simp))
set_option maxHeartbeats 4000000 in
theorem pjoin_ok {r q : RulesT} (hr : r.ok) (hq : q.ok) (sr : rulesSmall r) (sq : rulesSmall q) {s : List (Nat × Obj)} {n0 lw : Nat} : PostV (callW G (.fn 19 [] []) [.d r.d, .d q.d] { s := s, next := n0, low := lw }) (LiveRes s n0 (specJoin r q).1 (specJoin r q).2) := by
  have hC1 : ∀ (st : St), callW G (.fn 21 [] []) [.d (.agg [.sl (r.rels.map RelT.d), .sl (r.clauses.map ClauseT.d)])] st = _ := fun st => pcheck_ok hr st
  have hC2 : ∀ (st : St), callW G (.fn 21 [] []) [.d (.agg [.sl (q.rels.map RelT.d), .sl (q.clauses.map ClauseT.d)])] st = _ := fun st => pcheck_ok hq st
  refine stay_pc (first := []) (args := [.d r.d, .d q.d]) (cap := []) T1.g19 rfl rfl rfl (fun e w_len harg => ?_)
  have w_len : e.length = 59 := w_len
  have w_0 : e.getD 0 .undef = .d r.d := harg 0 (by simp)
  have w_1 : e.getD 1 .undef = .d q.d := harg 1 (by simp)
  clear harg
  simp only [T1.i19, RulesT.d, w_len, w_0, w_1, ↓LA, LB, simprocAttr]
  refine lp_rounds (fun e0 s0 m env st => ∃ (i nxi lwi : Nat) (si : List (Nat × Obj)), m = 2 - i ∧ (i ≤ 2) ∧ ((0 < i → specCheck r = 0)) ∧ ((1 < i → specCheck q = 0)) ∧ (∀ q, q < n0 → sget si q = sget s q) ∧ sget si (n0) = some (.cells [.d (.sl (r.rels.map RelT.d)), .d (.sl (r.clauses.map ClauseT.d))]) ∧ sget si (n0 + 1) = some (.cells [.d (.sl (q.rels.map RelT.d)), .d (.sl (q.clauses.map ClauseT.d))]) ∧ sget si (n0 + 2) = some (.cells [.nilS, .nilS]) ∧ sget si (n0 + 6) = some (.cells [.d (.sl (r.rels.map RelT.d)), .d (.sl (r.clauses.map ClauseT.d)), .d (.sl (q.rels.map RelT.d)), .d (.sl (q.clauses.map ClauseT.d))]) ∧ n0 + 9 ≤ nxi ∧ 0 ≤ lwi ∧ env.length = 59 ∧ env.getD 14 .undef = .d (.int .i64 i) ∧ env.getD 2 .undef = .ptr n0 0 ∧ env.getD 3 .undef = .ptr (n0 + 1) 0 ∧ env.getD 4 .undef = .ptr (n0 + 2) 0 ∧ env.getD 12 .undef = .arr (n0 + 6) 2 true 0 2 ∧ env.getD 13 .undef = .d (.int .i64 2) ∧ st = { s := si, next := nxi, low := lwi }) ?_ (2) (by refine ⟨0, _, _, _, rfl, by omega, by omega, by omega, by intro q hq; simp (disch := omega) only [sget_cons_ne], ?_, ?_, ?_, ?_, (by omega), Nat.zero_le _, ?_, ?_, ?_, ?_, ?_, ?_, ?_, rfl⟩ <;> simp only [w_len, LB, simprocAttr])
  rintro m env st ⟨i, nxi, lwi, si, hm, a_0, a_1, a_2, a_3, w_ac0, w_ac1, w_ac2, w_ac3, w_ab, w_alo, w_len, w_14, w_2, w_3, w_4, w_12, w_13, rfl⟩
  have w_aN := And.intro (cf1 (x := nxi) (a := n0) (by omega)) (And.intro (cf1 (x := nxi) (a := n0 + 1) (by omega)) (And.intro (cf1 (x := nxi) (a := n0 + 2) (by omega)) (cf1 (x := nxi) (a := n0 + 6) (by omega))))
  have w_aS := And.intro (cf2 (x := nxi) (by omega) w_ac0) (And.intro (cf2 (x := nxi) (by omega) w_ac1) (And.intro (cf2 (x := nxi) (by omega) w_ac2) (cf2 (x := nxi) (by omega) w_ac3)))
  have w_aZ := zf (x := nxi) (b := n0) (n := 9) (by omega) (by omega)
  have hwa : IntKind.i64.wrap (1 : Int) = 1 := wrap_id (by omega) (by omega)
  have hwb : IntKind.i64.wrap (2 : Int) = 2 := wrap_id (by omega) (by omega)
  by_cases h0 : i = 0
  · subst h0
    by_cases he : specCheck r = 0
    · simp only [hC1, he, hwa, w_len, w_14, w_12, w_13, w_ac3, ↓LA, LB, simprocAttr]
      exact nx_intro (by refine ⟨_, by omega, 0 + 1, _, _, _, rfl, by omega, (fun _ => he), (by omega), (by intro q hq; simp (disch := omega) only [sget_cons_ne]; exact a_3 q hq), ?_, ?_, ?_, ?_, (by omega), Nat.zero_le _, ?_, ?_, ?_, ?_, ?_, ?_, ?_, rfl⟩ <;> simp only [w_len, w_2, w_3, w_4, w_12, w_13, w_ac0, w_ac1, w_ac2, w_ac3, w_aN, LB, simprocAttr])
    · have hS : specJoin r q = (noRules, specCheck r) := if_pos he
      simp only [hC1, he, w_len, w_14, w_4, w_12, w_13, w_ac2, w_ac3, w_aN, w_aS, ↓LA, LB, simprocAttr]
      rw [hS]
      exact ⟨.nilS, .nilS, rfl, by show n0 ≤ nxi + _; omega, (by intro q hq; simp (disch := omega) only [sget_cons_ne, sget_sset_nn]; exact a_3 q hq), CQ.nil, CQ.nil⟩
  have hr0 := a_1 (by omega)
  by_cases h1 : i = 1
  · subst h1
    by_cases he : specCheck q = 0
    · simp only [hC2, he, hwb, w_len, w_14, w_12, w_13, w_ac3, ↓LA, LB, simprocAttr]
      exact nx_intro (by refine ⟨_, by omega, 1 + 1, _, _, _, rfl, by omega, (fun _ => hr0), (fun _ => he), (by intro q hq; simp (disch := omega) only [sget_cons_ne]; exact a_3 q hq), ?_, ?_, ?_, ?_, (by omega), Nat.zero_le _, ?_, ?_, ?_, ?_, ?_, ?_, ?_, rfl⟩ <;> simp only [w_len, w_2, w_3, w_4, w_12, w_13, w_ac0, w_ac1, w_ac2, w_ac3, w_aN, LB, simprocAttr])
    · have hS : specJoin r q = (noRules, specCheck q) := by rw [specJoin, if_neg (not_not_intro hr0), if_pos he]
      simp only [hC2, he, w_len, w_14, w_4, w_12, w_13, w_ac2, w_ac3, w_aN, w_aS, ↓LA, LB, simprocAttr]
      rw [hS]
      exact ⟨.nilS, .nilS, rfl, by show n0 ≤ nxi + _; omega, (by intro q hq; simp (disch := omega) only [sget_cons_ne, sget_sset_nn]; exact a_3 q hq), CQ.nil, CQ.nil⟩
  have hq0 := a_2 (by omega)
  have hi2 : ¬ i < 2 := by omega
  have hi2' : ¬ (i : Int) < 2 := by omega
  have rr := rules_right hr0
  have rq := rules_right hq0
  have hE : ∀ z lw, sget z (nxi + 4) = some (.cells [.fn 66 [.d (.agg [.sl (r.rels.map RelT.d), .sl (r.clauses.map ClauseT.d)])] []]) → callW G (.fn 67 [] []) [.d (.sl (q.rels.map RelT.d)), .fn 68 [] [.ptr (nxi + 4) 0]] { s := z, next := nxi + 12, low := lw } = some (.d (.bool (q.rels.all fun x => decide (relNo r.rels x.name < 0))), { s := z, next := nxi + 12, low := lw }) := fun z lw h =>
    evRR (by omega) rfl rfl (joinC_ok hr.1.1 (by omega) h)
  cases hf : fresh r q with
  | false =>
    have hS : specJoin r q = (noRules, 5) := by rw [specJoin, if_neg (not_not_intro hr0), if_neg (not_not_intro hq0), if_pos hf]
    unfold fresh at hf
    simp only [hi2', hE, hf, w_len, w_14, w_2, w_3, w_4, w_13, w_ac0, w_ac1, w_ac2, w_aN, w_aS, ↓LA, LB, simprocAttr]
    rw [hS]
    exact ⟨.nilS, .nilS, rfl, by show n0 ≤ nxi + _; omega, (by intro q hq; simp (disch := omega) only [sget_cons_ne, sget_sset_nn]; exact a_3 q hq), CQ.nil, CQ.nil⟩
  | true =>
    have hf' := hf
    unfold fresh at hf'
    have hw1 : IntKind.i64.wrap ((r.rels.length : Int) + q.rels.length) = (r.rels.length : Int) + q.rels.length := wrap_id (by omega) (by omega)
    have hw2 : IntKind.i64.wrap ((r.clauses.length : Int) + q.clauses.length) = (r.clauses.length : Int) + q.clauses.length := wrap_id (by omega) (by omega)
    by_cases h8 : (8 : Int) < (r.rels.length : Int) + q.rels.length
    · have hS : specJoin r q = (noRules, 2) := by rw [specJoin, if_neg (not_not_intro hr0), if_neg (not_not_intro hq0), if_neg (by rw [hf]; simp), if_pos (.inl (by omega))]
      simp only [hi2', hE, hf', hw1, h8, w_len, w_14, w_2, w_3, w_4, w_13, w_ac0, w_ac1, w_ac2, w_aN, w_aS, ↓LA, LB, simprocAttr]
      rw [hS]
      exact ⟨.nilS, .nilS, rfl, by show n0 ≤ nxi + _; omega, (by intro q hq; simp (disch := omega) only [sget_cons_ne, sget_sset_nn]; exact a_3 q hq), CQ.nil, CQ.nil⟩
    by_cases h24 : (24 : Int) < (r.clauses.length : Int) + q.clauses.length
    · have hS : specJoin r q = (noRules, 2) := by rw [specJoin, if_neg (not_not_intro hr0), if_neg (not_not_intro hq0), if_neg (by rw [hf]; simp), if_pos (.inr (by omega))]
      simp only [hi2', hE, hf', hw1, hw2, h8, h24, w_len, w_14, w_2, w_3, w_4, w_13, w_ac0, w_ac1, w_ac2, w_aN, w_aS, ↓LA, LB, simprocAttr]
      rw [hS]
      exact ⟨.nilS, .nilS, rfl, by show n0 ≤ nxi + _; omega, (by intro q hq; simp (disch := omega) only [sget_cons_ne, sget_sset_nn]; exact a_3 q hq), CQ.nil, CQ.nil⟩
    have hS : specJoin r q = (⟨r.rels ++ q.rels, r.clauses ++ q.clauses⟩, 0) := by rw [specJoin, if_neg (not_not_intro hr0), if_neg (not_not_intro hq0), if_neg (by rw [hf]; simp), if_neg (by omega)]
    simp only [hi2', hE, hf', hw1, hw2, h8, h24, w_len, w_14, w_2, w_3, w_13, w_ac0, w_ac1, w_aN, ↓LA, LB, simprocAttr]
    refine pv_post (pown_ok (l := [r, q]) (by
      intro x hx
      simp at hx
      rcases hx with rfl | rfl
      · exact ⟨sr, by omega⟩
      · exact ⟨sq, by omega⟩) (Nat.le_refl _) (by omega) sget_cons_eq rfl (by
      intro p hp
      match p, hp with
      | 0, _ => rfl
      | 1, _ => rfl) (by
      intro p
      rcases take_two (a := r) (b := q) (p := p) with h | h | h <;> rw [h] <;> simp [allRels] <;> omega) (by
      intro p
      rcases take_two (a := r) (b := q) (p := p) with h | h | h <;> rw [h] <;> simp [allClauses] <;> omega)) ?_
    intro v st1 hst1
    obtain ⟨a, b, rfl, g1, g2, g3, g4⟩ := hst1
    obtain ⟨so, nxo, lwo⟩ := st1
    simp only at g1 g2 g3 g4
    have w_m0 : sget so (n0 + 2) = some (.cells [.nilS, .nilS]) := by rw [g2 _ (by omega)]; simp (disch := omega) only [sget_cons_ne]; exact w_ac2
    have w_m1 := g3.cell.1
    have w_m2 := g4.cell.1
    simp only [w_len, w_4, w_m0, w_m1, w_m2, ↓LA, LB, simprocAttr]
    rw [hS]
    have e1 : allRels [r, q] = r.rels ++ q.rels := by simp [allRels]
    have e2 : allClauses [r, q] = r.clauses ++ q.clauses := by simp [allClauses]
    rw [e1] at g3
    rw [e2] at g4
    exact ⟨a, b, rfl, by show n0 ≤ nxo; omega, (by intro q hq; show sget (sset so (n0 + 2) _) q = _; rw [sget_sset_nn (by omega), g2 q (by omega)]; simp (disch := omega) only [sget_cons_ne]; exact a_3 q hq), ((g3.frame (fun q hq => sget_sset_nn (by have := hq.1; omega))).cv (by omega) (elts_map fun a => elt_rel)).mono (fun q hq => ⟨by have := hq.1; omega, hq.2⟩), (g4.frame (fun q hq => sget_sset_nn (by have := hq.1; omega))).mono (fun q hq => ⟨by have := hq.1; omega, hq.2.1⟩)⟩
end Go.Lift.K
namespace Go.Lift.K
open Go Go.Lift
set_option maxRecDepth 100000
theorem setRank_len {k : Int} : ∀ {l : List RelT} {n : Nat}, (setRank l n k).length = l.length
  | [], _ => rfl
  | _ :: _, 0 => rfl
  | _ :: l, n + 1 => by simp [setRank, setRank_len (l := l)]
theorem cvs_rank {s : List (Nat × Obj)} {lv : Bool} {S : Nat → Prop} {k : Int} : ∀ {l : List RelT} {n : Nat} {cs : List V}, n < l.length → CVs (CQ s lv S 0) cs ((l.map RelT.d).flatMap cellsD) →
    CVs (CQ s lv S 0) (cs.take (n * 3 + 2) ++ .d (.int .i64 k) :: cs.drop (n * 3 + 3)) (((setRank l n k).map RelT.d).flatMap cellsD)
  | x :: l, 0, v1 :: v2 :: v3 :: cs, _, h => ⟨h.1, h.2.1, CQ.int, h.2.2.2⟩
  | x :: l, n + 1, v1 :: v2 :: v3 :: cs, hn, h => by
    have e1 : (n + 1) * 3 + 2 = n * 3 + 2 + 3 := by omega
    have e2 : (n + 1) * 3 + 3 = n * 3 + 3 + 3 := by omega
    rw [e1, e2]
    exact ⟨h.1, h.2.1, h.2.2.1, cvs_rank (l := l) (by simpa using hn) h.2.2.2⟩
  | x :: l, _, [], _, h => h.elim
  | x :: l, _, [_], _, h => h.2.elim
  | x :: l, _, [_, _], _, h => h.2.2.elim
theorem GP.relAt {s : List (Nat × Obj)} {lv : Bool} {S : Nat → Prop} {v : V} {l : List RelT} (h : GP s lv S 0 3 true v (l.map RelT.d)) {n : Nat} (hn : n < l.length) :
    ∃ k cs, v = .arr k 3 true 0 l.length ∧ S k ∧ sget s k = some (.cells cs) ∧ CVs (CQ s lv S 0) cs ((l.map RelT.d).flatMap cellsD) ∧ opIaddrS 3 v (n : Int) = some (.ptr k (n * 3)) ∧ n * 3 + 2 + 1 ≤ cs.length := by
  rcases h with ⟨_, e⟩ | ⟨k, cs, rfl, h1, h2, h3⟩
  · cases l with
    | nil => simp at hn
    | cons x l => simp at e
  · have hl := h3.length
    rw [(cellsD_all (elts_map fun a => elt_rel)).2, List.length_map] at hl
    refine ⟨k, cs, by simp, h1, h2, h3.imp fun v d hv => hv, ?_, by omega⟩
    simp only [opIaddrS]
    rw [if_pos ⟨by omega, by simp; omega, trivial⟩]
    simp
set_option maxHeartbeats 4000000 in
theorem pranked_ok {r : RulesT} (hr : r.ok) (sr : rulesSmall r) {name : List Nat} {rank : Int} {s : List (Nat × Obj)} {n0 lw : Nat} : PostV (callW G (.fn 20 [] []) [.d r.d, .d (.str name), .d (.int .i64 rank)] { s := s, next := n0, low := lw }) (LiveRes s n0 (specRanked r name rank).1 (specRanked r name rank).2) := by
  have hC1 : ∀ (st : St), callW G (.fn 21 [] []) [.d (.agg [.sl (r.rels.map RelT.d), .sl (r.clauses.map ClauseT.d)])] st = _ := fun st => pcheck_ok hr st
  have hN : ∀ (n : List Nat) (st : St), callW G (.fn 66 [] []) [.d (.agg [.sl (r.rels.map RelT.d), .sl (r.clauses.map ClauseT.d)]), .d (.str n)] st = some (.d (.int .i64 (relNo r.rels n)), st) := fun n st => number_ok hr.1.1 st
  refine stay_pc (first := []) (args := [.d r.d, .d (.str name), .d (.int .i64 rank)]) (cap := []) T1.g20 rfl rfl rfl (fun e w_len harg => ?_)
  have w_len : e.length = 43 := w_len
  have w_0 : e.getD 0 .undef = .d r.d := harg 0 (by simp)
  have w_1 : e.getD 1 .undef = .d (.str name) := harg 1 (by simp)
  have w_2 : e.getD 2 .undef = .d (.int .i64 rank) := harg 2 (by simp)
  clear harg
  by_cases h0 : specCheck r = 0
  · have rr := rules_right h0
    by_cases h1 : relNo r.rels name < 0
    · have hS : specRanked r name rank = (noRules, 1) := by rw [specRanked, if_neg (not_not_intro h0), if_pos h1]
      simp only [T1.i20, RulesT.d, hC1, hN, h0, h1, w_len, w_0, w_1, ↓LA, LB, simprocAttr]
      rw [hS]
      exact ⟨.nilS, .nilS, rfl, Nat.le_add_right _ _, (by intro q hq; simp (disch := omega) only [sget_cons_ne]), CQ.nil, CQ.nil⟩
    by_cases h2 : rank < 0
    · have hS : specRanked r name rank = (noRules, 3) := by rw [specRanked, if_neg (not_not_intro h0), if_neg h1, if_pos (.inl h2)]
      simp only [T1.i20, RulesT.d, hC1, hN, h0, h1, h2, w_len, w_0, w_1, w_2, ↓LA, LB, simprocAttr]
      rw [hS]
      exact ⟨.nilS, .nilS, rfl, Nat.le_add_right _ _, (by intro q hq; simp (disch := omega) only [sget_cons_ne]), CQ.nil, CQ.nil⟩
    by_cases h3 : 3 < rank
    · have hS : specRanked r name rank = (noRules, 3) := by rw [specRanked, if_neg (not_not_intro h0), if_neg h1, if_pos (.inr h3)]
      simp only [T1.i20, RulesT.d, hC1, hN, h0, h1, h2, h3, w_len, w_0, w_1, w_2, ↓LA, LB, simprocAttr]
      rw [hS]
      exact ⟨.nilS, .nilS, rfl, Nat.le_add_right _ _, (by intro q hq; simp (disch := omega) only [sget_cons_ne]), CQ.nil, CQ.nil⟩
    have hS : specRanked r name rank = (⟨setRank r.rels (relNo r.rels name).toNat rank, r.clauses⟩, 0) := by rw [specRanked, if_neg (not_not_intro h0), if_neg h1, if_neg (fun h => h.elim h2 h3)]
    obtain ⟨n, hn, e1⟩ : ∃ n, n < r.rels.length ∧ relNo r.rels name = (n : Int) := by
      rcases idx_cases (p := isR name) (l := r.rels) with ⟨e1, _⟩ | ⟨n, hn, e1, _⟩
      · unfold relNo at h1; omega
      · exact ⟨n, hn, e1⟩
    rw [e1] at hS h1
    simp only [Int.toNat_natCast] at hS
    simp only [T1.i20, RulesT.d, hC1, hN, e1, h0, h1, h2, h3, w_len, w_0, w_1, w_2, ↓LA, LB, simprocAttr]
    refine pv_post (pown_ok (l := [r]) (by
      intro x hx
      simp at hx
      subst hx
      exact ⟨sr, by omega⟩) (by simp) (by omega) sget_cons_eq rfl (by
      intro p hp
      match p, hp with
      | 0, _ => rfl) (by
      intro p
      match p with
      | 0 => simp [allRels]
      | p + 1 => simp [allRels]; omega) (by
      intro p
      match p with
      | 0 => simp [allClauses]
      | p + 1 => simp [allClauses]; omega)) ?_
    intro v st1 hst1
    obtain ⟨a, b, rfl, g1, g2, g3, g4⟩ := hst1
    obtain ⟨so, nxo, lwo⟩ := st1
    simp only at g1 g2 g3 g4
    have e2 : allRels [r] = r.rels := by simp [allRels]
    have e3 : allClauses [r] = r.clauses := by simp [allClauses]
    rw [e2] at g3
    rw [e3] at g4
    obtain ⟨k, cs, ha, hk1, hk2, hk3, hk4, hk5⟩ := GP.relAt g3 hn
    have w_m0 : sget so (n0 + 1) = some (.cells [.nilS, .nilS]) := by rw [g2 _ (by omega)]; simp (disch := omega) only [sget_cons_ne]; exact sget_cons_eq
    have w_m1 := g3.cell.1
    have w_m2 := g4.cell.1
    have w_m3 := g3.cell.2
    have w_m4 := g4.cell.2.1
    have w_m5 : (n0 + 26 = k) = False := by have := hk1.1; simp; omega
    have w_m6 : (k = n0 + 26) = False := by have := hk1.1; simp; omega
    have w_m7 : (k = n0 + 1) = False := by have := hk1.1; simp; omega
    have w_m8 : (n0 + 1 = k) = False := by have := hk1.1; simp; omega
    simp only [hk2, hk4, hk5, w_len, w_2, w_m0, w_m1, w_m2, w_m5, w_m7, ↓LA, LB, simprocAttr]
    rw [hS]
    have hkn : ∀ q, n0 + 28 ≤ q ∧ q < nxo ∧ away a q → k ≠ q := fun q hq => by
      have h := hq.2.2
      rw [ha] at h
      exact h
    have hkl := hk1.1
    have hkh := hk1.2
    refine ⟨a, b, rfl, by show n0 ≤ nxo + 10; omega, ?_, ?_, ?_⟩
    · intro q hq
      show sget ((n0 + 26, _) :: sset (sset so k _) (n0 + 1) _) q = _
      rw [sget_cons_ne (by omega), sget_sset_nn (by omega), sget_sset_nn (by omega), g2 q (by omega)]
      simp (disch := omega) only [sget_cons_ne]
    · rw [ha]
      refine cq_arr ((setRank r.rels n rank).map RelT.d) ⟨by omega, by show k < nxo + 10; omega⟩ ?_ (by omega) (elts_map fun a => elt_rel) (by simp [setRank_len]) ((cvs_rank hn hk3).imp fun v d hv => hv)
      show sget ((n0 + 26, _) :: sset (sset so k _) (n0 + 1) _) k = _
      rw [sget_cons_ne (by omega), sget_sset_nn (by omega), sget_sset_same hk2, List.append_assoc]
      rfl
    · refine (g4.frame fun q hq => ?_).mono (fun q hq => ⟨by have := hq.1; omega, by have := hq.2.1; show q < nxo + 10; omega⟩)
      have h1 := hq.1
      show sget ((n0 + 26, _) :: sset (sset so k _) (n0 + 1) _) q = _
      rw [sget_cons_ne (by omega), sget_sset_nn (by omega), sget_sset_nn (hkn q hq)]
  · have hS : specRanked r name rank = (noRules, specCheck r) := if_pos h0
    simp only [T1.i20, RulesT.d, hC1, h0, w_len, w_0, ↓LA, LB, simprocAttr]
    rw [hS]
    exact ⟨.nilS, .nilS, rfl, Nat.le_add_right _ _, (by intro q hq; simp (disch := omega) only [sget_cons_ne]), CQ.nil, CQ.nil⟩
end Go.Lift.K
namespace Go.Lift.K
open Go Go.Lift
set_option maxRecDepth 100000
theorem no_rules {s : List (Nat × Obj)} : snap s 0 snapDepth (mkAgg [.nilS, .nilS]) = some (.agg [.sl [], .sl []]) := snap_mk (lv := false) (lo := 0) (n := 1) (hi := 0) (m := 11) (ds := [.sl [], .sl []]) (by omega) (by decide) ⟨CV.nil, CV.nil, trivial⟩
theorem ranked12_ok {r : RulesT} (hr : r.ok) {name : List Nat} {rank : Int} (st : St) : callW G (.fn 16 [] []) [.d r.d, .d (.str name), .d (.int .i64 rank)] st = some (.tup [.d (specRanked r name rank).1.d, .d (.int .i64 (specRanked r name rank).2)], st) := by
  have hC1 : ∀ (st : St), callW G (.fn 22 [] []) [.d (.agg [.sl (r.rels.map RelT.d), .sl (r.clauses.map ClauseT.d)])] st = _ := fun st => check12_ok hr st
  have hN : ∀ (n : List Nat) (st : St), callW G (.fn 61 [] []) [.d (.agg [.sl (r.rels.map RelT.d), .sl (r.clauses.map ClauseT.d)]), .d (.str n)] st = some (.d (.int .i64 (relNo r.rels n)), st) := fun n st => refRel_ok hr.1.1 st
  refine pure_pc (ds := [r.d, .str name, .int .i64 rank]) (rs := [(specRanked r name rank).1.d, .int .i64 (specRanked r name rank).2]) T1.g16 rfl rfl (fun e w_len harg => ?_) st
  have w_len : e.length = 40 := w_len
  have w_0 := harg 0 (by simp)
  have w_1 := harg 1 (by simp)
  have w_2 := harg 2 (by simp)
  clear harg
  simp only [List.map_cons, List.map_nil, List.getD_cons_zero, List.getD_cons_succ] at w_0 w_1 w_2
  by_cases h0 : specCheck r = 0
  · have rr := rules_right h0
    by_cases h1 : relNo r.rels name < 0
    · have hS : specRanked r name rank = (noRules, 1) := by rw [specRanked, if_neg (not_not_intro h0), if_pos h1]
      simp only [T1.i16, RulesT.d, hC1, hN, h0, h1, w_len, w_0, w_1, ↓LA, LB, simprocAttr]
      exact rql2 no_rules rfl (by rw [hS]; rfl)
    by_cases h2 : rank < 0 ∨ 3 < rank
    · have hS : specRanked r name rank = (noRules, 3) := by rw [specRanked, if_neg (not_not_intro h0), if_neg h1, if_pos h2]
      simp only [T1.i16, RulesT.d, hC1, hN, h0, h1, off12_ok, or_iff_dec, h2, w_len, w_0, w_1, w_2, ↓LA, LB, simprocAttr]
      exact rql2 no_rules rfl (by rw [hS]; rfl)
    have hS : specRanked r name rank = (⟨setRank r.rels (relNo r.rels name).toNat rank, r.clauses⟩, 0) := by rw [specRanked, if_neg (not_not_intro h0), if_neg h1, if_neg h2]
    obtain ⟨n, hn, e1⟩ : ∃ n, n < r.rels.length ∧ relNo r.rels name = (n : Int) := by
      rcases idx_cases (p := isR name) (l := r.rels) with ⟨e1, _⟩ | ⟨n, hn, e1, _⟩
      · unfold relNo at h1; omega
      · exact ⟨n, hn, e1⟩
    rw [e1] at hS h1
    simp only [Int.toNat_natCast] at hS
    have hA : ∀ z nx lw, sget z 20 = some (.cells []) → opAppend { s := z, next := nx, low := lw } 21 3 true 32 (.arr 20 3 true 0 0) (.d (.sl (r.rels.map RelT.d))) = some (.arr 21 3 true 0 r.rels.length, { s := (21, .cells (((r.rels.map RelT.d).flatMap cellsD).map V.d)) :: sdel z 20, next := nx, low := Nat.min lw 20 }) := fun z nx lw h => by
      have := app_data (nx := nx) (lw := lw) (key := 21) (eb := 32) (ag := true) (l := r.rels.map RelT.d) h (elts_map fun a => elt_rel) (by simp; omega) (by simp; omega)
      simpa using this
    have hia : opIaddrS 3 (.arr 21 3 true 0 r.rels.length) (n : Int) = some (.ptr 21 (n * 3)) := by
      simp only [opIaddrS]
      rw [if_pos ⟨by omega, by omega, trivial⟩]
      simp
    have hcl : ((r.rels.map RelT.d).flatMap cellsD).length = r.rels.length * 3 := by rw [(cellsD_all (elts_map fun a => elt_rel)).2, List.length_map]
    have hk5 : n * 3 + 2 + 1 ≤ r.rels.length * 3 := by omega
    have hk6 : n * 3 + 3 ≤ r.rels.length * 3 := by omega
    simp only [T1.i16, RulesT.d, hC1, hN, e1, h0, h1, off12_ok, or_iff_dec, h2, hA, hia, hcl, hk5, w_len, w_0, w_1, w_2, ↓LA, LB, simprocAttr]
    rw [hS]
    refine rql2 (x := RulesT.d ⟨setRank r.rels n rank, r.clauses⟩) (snap_mkP (lv := false) (S := fun q => q = 21) (n := 1) (m := 11) (fun j h => Nat.zero_le j) (by decide) ⟨cq_arr ((setRank r.rels n rank).map RelT.d) rfl (by simp (disch := omega) only [sget_cons_ne, sget_cons_eq]; rfl) (by omega) (elts_map fun a => elt_rel) (by simp [setRank_len]) ?_, CQ.data, trivial⟩) rfl rfl
    rw [List.append_assoc]
    exact cvs_rank hn rel_cells
  · have hS : specRanked r name rank = (noRules, specCheck r) := if_pos h0
    simp only [T1.i16, RulesT.d, hC1, h0, w_len, w_0, ↓LA, LB, simprocAttr]
    exact rql2 no_rules rfl (by rw [hS]; rfl)
theorem join12_ok {r q : RulesT} (hr : r.ok) (hq : q.ok) (st : St) : callW G (.fn 15 [] []) [.d r.d, .d q.d] st = some (.tup [.d (specJoin r q).1.d, .d (.int .i64 (specJoin r q).2)], st) := by
  have hC1 : ∀ (st : St), callW G (.fn 22 [] []) [.d (.agg [.sl (r.rels.map RelT.d), .sl (r.clauses.map ClauseT.d)])] st = _ := fun st => check12_ok hr st
  have hC2 : ∀ (st : St), callW G (.fn 22 [] []) [.d (.agg [.sl (q.rels.map RelT.d), .sl (q.clauses.map ClauseT.d)])] st = _ := fun st => check12_ok hq st
  have hN : ∀ (n : List Nat) (st : St), callW G (.fn 61 [] []) [.d (.agg [.sl (r.rels.map RelT.d), .sl (r.clauses.map ClauseT.d)]), .d (.str n)] st = some (.d (.int .i64 (relNo r.rels n)), st) := fun n st => refRel_ok hr.1.1 st
  have hql := hq.1.1
  unfold LOk at hql
  refine pure_pc (ds := [r.d, q.d]) (rs := [(specJoin r q).1.d, .int .i64 (specJoin r q).2]) T1.g15 rfl rfl (fun e w_len harg => ?_) st
  have w_len : e.length = 72 := w_len
  have w_0 := harg 0 (by simp)
  have w_1 := harg 1 (by simp)
  clear harg
  simp only [List.map_cons, List.map_nil, List.getD_cons_zero, List.getD_cons_succ] at w_0 w_1
  by_cases h0 : specCheck r = 0
  · by_cases h1 : specCheck q = 0
    · have rr := rules_right h0
      have rq := rules_right h1
      have hS := show specJoin r q = _ from by rw [specJoin, if_neg (not_not_intro h0), if_neg (not_not_intro h1)]
      simp only [T1.i15, RulesT.d, hC1, hC2, h0, h1, w_len, w_0, w_1, ↓LA, LB, simprocAttr]
      refine lp_rounds (fun e0 s0 m env st => ∃ (i nxi : Nat), m = q.rels.length - i ∧ (i ≤ q.rels.length) ∧ (∀ x ∈ q.rels.take i, decide (relNo r.rels x.name < 0) = true) ∧ env.length = 72 ∧ env.getD 8 .undef = .d (.int .i64 i) ∧ env.getD 2 .undef = .ptr 0 0 ∧ env.getD 3 .undef = .ptr 1 0 ∧ env.getD 4 .undef = .ptr 2 0 ∧ st = { s := s0.s, next := nxi, low := s0.low }) ?_ (q.rels.length) (by refine ⟨0, _, rfl, by omega, by simp, ?_, ?_, ?_, ?_, ?_, rfl⟩ <;> simp only [w_len, LB, simprocAttr])
      rintro m env st ⟨i, nxi, hm, a_0, a_1, w_len, w_8, w_2, w_3, w_4, rfl⟩
      by_cases hi : i < q.rels.length
      · by_cases h2 : relNo r.rels q.rels[i].name < 0
        · have h2' : ¬ 0 ≤ relNo r.rels q.rels[i].name := by omega
          simp only [hi, iaddr_rel hi, hN, h2', wrap_succ hi (by omega), w_len, w_8, w_2, w_3, ↓LA, LB, simprocAttr]
          exact nx_intro (by refine ⟨_, by omega, i + 1, _, rfl, by omega, takeL_all hi a_1 (decide_eq_true h2), ?_, ?_, ?_, ?_, ?_, rfl⟩ <;> simp only [w_len, w_2, w_3, w_4, LB, simprocAttr])
        · have h2' : 0 ≤ relNo r.rels q.rels[i].name := by omega
          have hf : fresh r q = false := all_false hi (decide_eq_false h2)
          rw [if_pos hf] at hS
          simp only [hi, iaddr_rel hi, hN, h2', w_len, w_8, w_2, w_3, w_4, ↓LA, LB, simprocAttr]
          exact rql2 no_rules rfl (by rw [hS]; rfl)
      · have hf : fresh r q = true := List.all_eq_true.2 (takeL_end hi a_1)
        rw [if_neg (by rw [hf]; simp)] at hS
        have hw1 : IntKind.i64.wrap ((r.rels.length : Int) + q.rels.length) = (r.rels.length : Int) + q.rels.length := wrap_id (by omega) (by omega)
        have hw2 : IntKind.i64.wrap ((r.clauses.length : Int) + q.clauses.length) = (r.clauses.length : Int) + q.clauses.length := wrap_id (by omega) (by omega)
        by_cases h8 : (8 : Int) < (r.rels.length : Int) + q.rels.length
        · rw [if_pos (.inl (by omega))] at hS
          simp only [hi, hw1, h8, w_len, w_8, w_2, w_3, w_4, ↓LA, LB, simprocAttr]
          exact rql2 no_rules rfl (by rw [hS]; rfl)
        by_cases h24 : (24 : Int) < (r.clauses.length : Int) + q.clauses.length
        · rw [if_pos (.inr (by omega))] at hS
          simp only [hi, hw1, hw2, h8, h24, w_len, w_8, w_2, w_3, w_4, ↓LA, LB, simprocAttr]
          exact rql2 no_rules rfl (by rw [hS]; rfl)
        rw [if_neg (by omega)] at hS
        have hA1 : ∀ z nx lw, sget z (nxi + 31) = some (.cells []) → opAppend { s := z, next := nx, low := lw } (nxi + 32) 3 true 32 (.arr (nxi + 31) 3 true 0 0) (.d (.sl (r.rels.map RelT.d))) = some (.arr (nxi + 32) 3 true 0 r.rels.length, { s := (nxi + 32, .cells (((r.rels.map RelT.d).flatMap cellsD).map V.d)) :: sdel z (nxi + 31), next := nx, low := Nat.min lw (nxi + 31) }) := fun z nx lw h => by
          have := app_data (nx := nx) (lw := lw) (key := nxi + 32) (eb := 32) (ag := true) (l := r.rels.map RelT.d) h (elts_map fun a => elt_rel) (by simp; omega) (by simp; omega)
          simpa using this
        have hA2 : ∀ z nx lw, sget z (nxi + 32) = some (.cells (((r.rels.map RelT.d).flatMap cellsD).map V.d)) → opAppend { s := z, next := nx, low := lw } (nxi + 33) 3 true 32 (.arr (nxi + 32) 3 true 0 r.rels.length) (.d (.sl (q.rels.map RelT.d))) = some (.arr (nxi + 33) 3 true 0 (r.rels.length + q.rels.length), { s := (nxi + 33, .cells (((r.rels.map RelT.d ++ q.rels.map RelT.d).flatMap cellsD).map V.d)) :: sdel z (nxi + 32), next := nx, low := Nat.min lw (nxi + 32) }) := fun z nx lw h => by
          have := app_more (nx := nx) (lw := lw) (key := nxi + 33) (es := 3) (eb := 32) (ag := true) (l1 := r.rels.map RelT.d) (l := q.rels.map RelT.d) h (elts_map fun a => elt_rel) (elts_map fun a => elt_rel) (by simp; omega) (by simp; omega)
          simpa only [List.length_map] using this
        have hB1 : ∀ z nx lw, sget z (nxi + 34) = some (.cells []) → opAppend { s := z, next := nx, low := lw } (nxi + 35) 3 true 64 (.arr (nxi + 34) 3 true 0 0) (.d (.sl (r.clauses.map ClauseT.d))) = some (.arr (nxi + 35) 3 true 0 r.clauses.length, { s := (nxi + 35, .cells (((r.clauses.map ClauseT.d).flatMap cellsD).map V.d)) :: sdel z (nxi + 34), next := nx, low := Nat.min lw (nxi + 34) }) := fun z nx lw h => by
          have := app_data (nx := nx) (lw := lw) (key := nxi + 35) (eb := 64) (ag := true) (l := r.clauses.map ClauseT.d) h (elts_map fun a => elt_clause) (by simp; omega) (by simp; omega)
          simpa using this
        have hB2 : ∀ z nx lw, sget z (nxi + 35) = some (.cells (((r.clauses.map ClauseT.d).flatMap cellsD).map V.d)) → opAppend { s := z, next := nx, low := lw } (nxi + 36) 3 true 64 (.arr (nxi + 35) 3 true 0 r.clauses.length) (.d (.sl (q.clauses.map ClauseT.d))) = some (.arr (nxi + 36) 3 true 0 (r.clauses.length + q.clauses.length), { s := (nxi + 36, .cells (((r.clauses.map ClauseT.d ++ q.clauses.map ClauseT.d).flatMap cellsD).map V.d)) :: sdel z (nxi + 35), next := nx, low := Nat.min lw (nxi + 35) }) := fun z nx lw h => by
          have := app_more (nx := nx) (lw := lw) (key := nxi + 36) (es := 3) (eb := 64) (ag := true) (l1 := r.clauses.map ClauseT.d) (l := q.clauses.map ClauseT.d) h (elts_map fun a => elt_clause) (elts_map fun a => elt_clause) (by simp; omega) (by simp; omega)
          simpa only [List.length_map] using this
        simp only [hi, hw1, hw2, h8, h24, hA1, hA2, hB1, hB2, w_len, w_8, w_2, w_3, w_4, ↓LA, LB, simprocAttr]
        rw [hS]
        refine rql2 (x := RulesT.d ⟨r.rels ++ q.rels, r.clauses ++ q.clauses⟩) (snap_mkP (lv := false) (S := fun j => nxi ≤ j) (n := 1) (m := 11) (fun j h => Nat.zero_le j) (by decide) ⟨cq_arr ((r.rels ++ q.rels).map RelT.d) (by omega) (by simp (disch := omega) only [sget_cons_ne, sget_cons_eq]; rfl) (by omega) (elts_map fun a => elt_rel) (by simp) ?_, cq_arr ((r.clauses ++ q.clauses).map ClauseT.d) (by omega) sget_cons_eq (by omega) (elts_map fun a => elt_clause) (by simp) ?_, trivial⟩) rfl rfl
        · simp only [← List.map_append]
          exact CVs_data (cellsD_all (elts_map fun a => elt_rel)).1
        · simp only [← List.map_append]
          exact CVs_data (cellsD_all (elts_map fun a => elt_clause)).1
    · have hS : specJoin r q = (noRules, specCheck q) := by rw [specJoin, if_neg (not_not_intro h0), if_pos h1]
      simp only [T1.i15, RulesT.d, hC1, hC2, h0, h1, w_len, w_0, w_1, ↓LA, LB, simprocAttr]
      exact rql2 no_rules rfl (by rw [hS]; rfl)
  · have hS : specJoin r q = (noRules, specCheck r) := if_pos h0
    simp only [T1.i15, RulesT.d, hC1, h0, w_len, w_0, w_1, ↓LA, LB, simprocAttr]
    exact rql2 no_rules rfl (by rw [hS]; rfl)
end Go.Lift.K
namespace Go.Lift.K
open Go Go.Lift
set_option maxRecDepth 100000
theorem getD_set_nn {l : List V} {i j : Nat} {v : V} (h : i ≠ j) : (l.set i v).getD j .undef = l.getD j .undef := by
  simp only [List.getD_eq_getElem?_getD]
  rw [List.getElem?_set_ne h]
theorem clear_head {Q : Ex → List V → St → Prop} {e : List V} {z0 sA : List (Nat × Obj)} {S : Nat → Prop} {nxA lwA n : Nat} {v : V} {q} (w_len : e.length = 249) (w_209 : e.getD 209 .undef = v) (w_210 : e.getD 210 .undef = .d (.int .i64 n)) (w_211 : e.getD 211 .undef = .d (.int .i64 ((0 : Nat) : Int)))
    (hv : PK (A1 z0 S) 2 v) (hn : opLen false v = some n) (hnb : n ≤ 9223372036854775807) (hS : Sto z0 S sA) (hSn : ∀ q, S q → q < nxA)
    (h : ∀ e' s' nx' lw', e'.length = 249 → (∀ i, i < 209 → i ≠ 42 → e'.getD i .undef = e.getD i .undef) → Sto z0 S s' → (∀ q, q < nxA → ¬ S q → sget s' q = sget sA q) → nxA ≤ nx' → Q (.brk 4) e' { s := s', next := nx', low := lw' }) :
    LP (evalG (callW G) roundsW none T1.w3_4) e { s := sA, next := nxA, low := lwA } Q q := by
  refine lp_rounds (fun e0 s0 m env st => ∃ (i nxi lwi : Nat) (si : List (Nat × Obj)), m = n - i ∧ (i ≤ n) ∧ ((∀ j, j < 209 → j ≠ 42 → env.getD j .undef = e0.getD j .undef)) ∧ (Sto z0 S si) ∧ ((∀ q, q < nxA → ¬ S q → sget si q = sget sA q)) ∧ nxA ≤ nxi ∧ 0 ≤ lwi ∧ env.length = 249 ∧ env.getD 211 .undef = .d (.int .i64 i) ∧ env.getD 209 .undef = v ∧ env.getD 210 .undef = .d (.int .i64 n) ∧ st = { s := si, next := nxi, low := lwi }) ?_ (n) (by refine ⟨0, _, _, _, rfl, by omega, fun _ _ _ => rfl, hS, fun _ _ _ => rfl, (by omega), Nat.zero_le _, ?_, ?_, ?_, ?_, rfl⟩ <;> simp only [w_len, w_209, w_210, w_211, LB, simprocAttr])
  rintro m env st ⟨i, nxi, lwi, si, hm, a_0, a_1, a_2, a_3, w_ab, w_alo, w_len, w_211, w_209, w_210, rfl⟩
  by_cases hi : i < n
  · obtain ⟨k, cs, a, hk, hk1, hk2, hk3, hk4, x, b, rfl, hb⟩ := hv.at (fun _ => E1_len) (fun k n hR => a_2.2.1 k n hR) hn hi
    have hk5 : ∀ j, (nxi + j = k) = False := fun j => by have := hSn k hk; simp; omega
    have hb1 := hb.cell.1
    have hb2 := hb.cell.2.1
    have hb3 := hb.cell.2.2
    simp only [hi, hk1, hk2, hk3, hk4, hb1, w_len, w_211, w_209, w_210, ↓LA, LB, simprocAttr]
    refine pv_clear0 (a_2.frame ?_) hb fun s' lw' hS' hs' => ?_
    · intro j hj
      have := hSn j hj
      simp (disch := omega) only [sget_cons_ne]
    simp only [wrap_succ hi (by omega), w_len, w_211, ↓LA, LB, simprocAttr]
    exact nx_intro (by refine ⟨_, by omega, i + 1, _, _, _, rfl, by omega, (fun j h1 h2 => by simp (disch := omega) only [getD_set_nn]; exact a_1 j h1 h2), hS', (fun q h1 h2 => by rw [hs' q h2]; simp (disch := omega) only [sget_cons_ne]; exact a_3 q h1 h2), (by omega), Nat.zero_le _, ?_, ?_, ?_, ?_, rfl⟩ <;> simp only [w_len, w_209, w_210, LB, simprocAttr])
  · simp only [hi, w_len, w_211, w_210, ↓LA, LB, simprocAttr]
    exact h _ _ _ _ (by simp only [List.length_set]; exact w_len) (fun j h1 h2 => by simp (disch := omega) only [getD_set_nn]; exact a_1 j h1 h2) a_2 a_3 (by omega)
theorem clear_clauses {Q : Ex → List V → St → Prop} {e : List V} {z0 sA : List (Nat × Obj)} {S : Nat → Prop} {nxA lwA n : Nat} {v : V} {q} (w_len : e.length = 249) (w_202 : e.getD 202 .undef = v) (w_203 : e.getD 203 .undef = .d (.int .i64 n)) (w_204 : e.getD 204 .undef = .d (.int .i64 ((0 : Nat) : Int)))
    (hv : PK (A2 z0 S) 3 v) (hn : opLen false v = some n) (hnb : n ≤ 9223372036854775807) (hS : Sto z0 S sA) (hSn : ∀ q, S q → q < nxA)
    (h : ∀ e' s' nx' lw', e'.length = 249 → (∀ i, i < 202 → i ≠ 40 → i ≠ 42 → e'.getD i .undef = e.getD i .undef) → Sto z0 S s' → (∀ q, q < nxA → ¬ S q → sget s' q = sget sA q) → nxA ≤ nx' → Q (.brk 2) e' { s := s', next := nx', low := lw' }) :
    LP (evalG (callW G) roundsW none T1.w3_2) e { s := sA, next := nxA, low := lwA } Q q := by
  refine lp_rounds (fun e0 s0 m env st => ∃ (i nxi lwi : Nat) (si : List (Nat × Obj)), m = n - i ∧ (i ≤ n) ∧ ((∀ j, j < 202 → j ≠ 40 → j ≠ 42 → env.getD j .undef = e0.getD j .undef)) ∧ (Sto z0 S si) ∧ ((∀ q, q < nxA → ¬ S q → sget si q = sget sA q)) ∧ nxA ≤ nxi ∧ 0 ≤ lwi ∧ env.length = 249 ∧ env.getD 204 .undef = .d (.int .i64 i) ∧ env.getD 202 .undef = v ∧ env.getD 203 .undef = .d (.int .i64 n) ∧ st = { s := si, next := nxi, low := lwi }) ?_ (n) (by refine ⟨0, _, _, _, rfl, by omega, fun _ _ _ _ => rfl, hS, fun _ _ _ => rfl, (by omega), Nat.zero_le _, ?_, ?_, ?_, ?_, rfl⟩ <;> simp only [w_len, w_202, w_203, w_204, LB, simprocAttr])
  rintro m env st ⟨i, nxi, lwi, si, hm, a_0, a_1, a_2, a_3, w_ab, w_alo, w_len, w_204, w_202, w_203, rfl⟩
  by_cases hi : i < n
  · obtain ⟨k, cs, a, hk, hk1, hk2, hk3, hk4, x, b, c, rfl, hb, hc⟩ := hv.at (fun _ => E2_len) (fun k n hR => a_2.2.2.1 k n hR) hn hi
    have hk5 : ∀ j, (nxi + j = k) = False := fun j => by have := hSn k hk; simp; omega
    have hb1 := hb.cell.1
    have hb2 := hb.cell.2.1
    have hb3 := hb.cell.2.2
    have hc1 := hc.cell.1
    have hc2 := hc.cell.2.1
    have hc3 := hc.cell.2.2
    obtain ⟨m, hm1, hm2, _⟩ := hb.len
    simp only [hi, hk1, hk2, hk3, hk4, hb1, hc1, hm1, w_len, w_204, w_202, w_203, ↓LA, LB, simprocAttr]
    refine clear_head (z0 := z0) (S := S) (v := b) (n := m) ?_ ?_ ?_ ?_ hb hm1 hm2 (a_2.frame ?_) ?_ fun e' s1 nx1 lw1 he0 he1 hS1 hs1 hnx1 => ?_
    · simp only [w_len, LB, simprocAttr]
    · simp only [w_len, LB, simprocAttr]
    · simp only [w_len, LB, simprocAttr]
    · simp only [w_len, LB, simprocAttr]
    · intro j hj
      have := hSn j hj
      simp (disch := omega) only [sget_cons_ne]
    · intro j hj
      have := hSn j hj
      omega
    have w_g1 : e'.getD 40 .undef = .ptr (nxi + 3) 0 := by rw [he1 40 (by omega) (by omega)]; simp only [w_len, LB, simprocAttr]
    have w_g2 : e'.getD 202 .undef = v := by rw [he1 202 (by omega) (by omega)]; simp only [w_202, LB, simprocAttr]
    have w_g3 : e'.getD 203 .undef = .d (.int .i64 n) := by rw [he1 203 (by omega) (by omega)]; simp only [w_203, LB, simprocAttr]
    have w_g4 : e'.getD 204 .undef = .d (.int .i64 i) := by rw [he1 204 (by omega) (by omega)]; simp only [w_204, LB, simprocAttr]
    have w_g5 : ∀ j, j < 202 → j ≠ 40 → j ≠ 42 → e'.getD j .undef = e.getD j .undef := fun j h1 h2 h3 => by
      rw [he1 j (by omega) h3]; simp (disch := omega) only [getD_set_nn]; exact a_1 j h1 h2 h3
    have hnS : ∀ j, ¬ S (nxi + j) := fun j hj => by have := hSn _ hj; omega
    have w_g6 : sget s1 (nxi + 3) = some (.cells [.d (.str x), b, c]) := by rw [hs1 _ (by omega) (hnS 3)]; simp only [sget_cons_eq]
    have hs1' : ∀ q, q < nxA → ¬ S q → sget s1 q = sget sA q := fun q h1 h2 => by rw [hs1 q (by omega) h2]; simp (disch := omega) only [sget_cons_ne]; exact a_3 q h1 h2
    clear he1 hs1
    have w_len := he0
    simp only [w_len, w_g1, w_g6, ↓LA, LB, simprocAttr]
    refine pv_clear1 hS1 hb fun s2 lw2 hS2 hs2 => ?_
    have w_g7 : sget s2 (nxi + 3) = some (.cells [.d (.str x), b, c]) := by rw [hs2 _ (hnS 3)]; exact w_g6
    simp only [w_len, w_g1, w_g7, ↓LA, LB, simprocAttr]
    refine pv_clear1 hS2 hc fun s3 lw3 hS3 hs3 => ?_
    simp only [wrap_succ hi (by omega), w_len, w_g4, ↓LA, LB, simprocAttr]
    exact nx_intro (by refine ⟨_, by omega, i + 1, _, _, _, rfl, by omega, (fun j h1 h2 h3 => by simp (disch := omega) only [getD_set_nn]; exact w_g5 j h1 h2 h3), hS3, (fun q h1 h2 => by rw [hs3 q h2, hs2 q h2]; exact hs1' q h1 h2), (by omega), Nat.zero_le _, ?_, ?_, ?_, ?_, rfl⟩ <;> simp only [w_len, w_g2, w_g3, LB, simprocAttr])
  · simp only [hi, w_len, w_204, w_203, ↓LA, LB, simprocAttr]
    exact h _ _ _ _ (by simp only [List.length_set]; exact w_len) (fun j h1 h2 h3 => by simp (disch := omega) only [getD_set_nn]; exact a_1 j h1 h2 h3) a_2 a_3 (by omega)
def E4 (s : List (Nat × Obj)) (S : Nat → Prop) (cs : List V) : Prop := ∃ a b, cs = [a, b] ∧ PK (A3 s S) 3 a ∧ PK (A2 s S) 3 b
theorem E4_len {s : List (Nat × Obj)} {S : Nat → Prop} {a : List V} (h : E4 s S a) : a.length = 2 := by obtain ⟨x, y, rfl, _⟩ := h; rfl
theorem clear_rules {Q : Ex → List V → St → Prop} {e : List V} {z0 sA : List (Nat × Obj)} {S : Nat → Prop} {nxA lwA ka : Nat} {CA : List V} {q} (w_len : e.length = 249) (w_195 : e.getD 195 .undef = .arr ka 2 true 0 4) (w_196 : e.getD 196 .undef = .d (.int .i64 4)) (w_197 : e.getD 197 .undef = .d (.int .i64 ((0 : Nat) : Int)))
    (hka : ka < nxA) (hkS : ¬ S ka) (hCA : sget sA ka = some (.cells CA)) (hCt : tcs (E4 z0 S) 4 CA) (hS : Sto z0 S sA) (hSn : ∀ q, S q → q < nxA)
    (h : ∀ e' s' nx' lw', e'.length = 249 → (∀ i, i < 38 → e'.getD i .undef = e.getD i .undef) → (∀ q, q < nxA → ¬ S q → sget s' q = sget sA q) → nxA ≤ nx' → Q (.brk 0) e' { s := s', next := nx', low := lw' }) :
    LP (evalG (callW G) roundsW none T1.w3_0) e { s := sA, next := nxA, low := lwA } Q q := by
  refine lp_rounds (fun e0 s0 m env st => ∃ (i nxi lwi : Nat) (si : List (Nat × Obj)), m = 4 - i ∧ (i ≤ 4) ∧ ((∀ j, j < 38 → env.getD j .undef = e0.getD j .undef)) ∧ (Sto z0 S si) ∧ ((∀ q, q < nxA → ¬ S q → sget si q = sget sA q)) ∧ nxA ≤ nxi ∧ 0 ≤ lwi ∧ env.length = 249 ∧ env.getD 197 .undef = .d (.int .i64 i) ∧ env.getD 195 .undef = .arr ka 2 true 0 4 ∧ env.getD 196 .undef = .d (.int .i64 4) ∧ st = { s := si, next := nxi, low := lwi }) ?_ (4) (by refine ⟨0, _, _, _, rfl, by omega, fun _ _ => rfl, hS, fun _ _ _ => rfl, (by omega), Nat.zero_le _, ?_, ?_, ?_, ?_, rfl⟩ <;> simp only [w_len, w_195, w_196, w_197, LB, simprocAttr])
  rintro m env st ⟨i, nxi, lwi, si, hm, a_0, a_1, a_2, a_3, w_ab, w_alo, w_len, w_197, w_195, w_196, rfl⟩
  have w_ca : sget si ka = some (.cells CA) := by rw [a_3 ka hka hkS]; exact hCA
  by_cases hi : i < 4
  · obtain ⟨hk4, hk3⟩ := tcs_at (fun _ => E4_len) hCt hi
    obtain ⟨a, b, hk5, ha, hb⟩ := hk4
    have hi1 : opIaddrS 2 (.arr ka 2 true 0 4) (i : Int) = some (.ptr ka (i * 2)) := by
      simp only [opIaddrS]
      rw [if_pos ⟨by omega, by omega, trivial⟩]
      simp
    have hi2 : ((i : Int) < 4) = True := by simp; omega
    have hk6 : ∀ j, (nxi + j = ka) = False := fun j => by simp; omega
    have ha1 := ha.cell.1
    have ha2 := ha.cell.2.1
    have ha3 := ha.cell.2.2
    have hb1 := hb.cell.1
    have hb2 := hb.cell.2.1
    have hb3 := hb.cell.2.2
    obtain ⟨m, hm1, hm2, _⟩ := hb.len
    simp only [hi2, hi1, hk3, hk5, ha1, hb1, hm1, w_len, w_197, w_195, w_196, w_ca, ↓LA, LB, simprocAttr]
    refine clear_clauses (z0 := z0) (S := S) (v := b) (n := m) ?_ ?_ ?_ ?_ hb hm1 hm2 (a_2.frame ?_) ?_ fun e' s1 nx1 lw1 he0 he1 hS1 hs1 hnx1 => ?_
    · simp only [w_len, LB, simprocAttr]
    · simp only [w_len, LB, simprocAttr]
    · simp only [w_len, LB, simprocAttr]
    · simp only [w_len, LB, simprocAttr]
    · intro j hj
      have := hSn j hj
      simp (disch := omega) only [sget_cons_ne]
    · intro j hj
      have := hSn j hj
      omega
    have w_g1 : e'.getD 38 .undef = .ptr (nxi + 3) 0 := by rw [he1 38 (by omega) (by omega) (by omega)]; simp only [w_len, LB, simprocAttr]
    have w_g2 : e'.getD 195 .undef = .arr ka 2 true 0 4 := by rw [he1 195 (by omega) (by omega) (by omega)]; simp only [w_195, LB, simprocAttr]
    have w_g3 : e'.getD 196 .undef = .d (.int .i64 4) := by rw [he1 196 (by omega) (by omega) (by omega)]; simp only [w_196, LB, simprocAttr]
    have w_g4 : e'.getD 197 .undef = .d (.int .i64 i) := by rw [he1 197 (by omega) (by omega) (by omega)]; simp only [w_197, LB, simprocAttr]
    have w_g5 : ∀ j, j < 38 → e'.getD j .undef = e.getD j .undef := fun j h1 => by
      rw [he1 j (by omega) (by omega) (by omega)]; simp (disch := omega) only [getD_set_nn]; exact a_1 j h1
    have hnS : ∀ j, ¬ S (nxi + j) := fun j hj => by have := hSn _ hj; omega
    have w_g6 : sget s1 (nxi + 3) = some (.cells [a, b]) := by rw [hs1 _ (by omega) (hnS 3)]; simp only [sget_cons_eq]
    have hs1' : ∀ q, q < nxA → ¬ S q → sget s1 q = sget sA q := fun q h1 h2 => by rw [hs1 q (by omega) h2]; simp (disch := omega) only [sget_cons_ne]; exact a_3 q h1 h2
    clear he1 hs1
    have w_len := he0
    simp only [w_len, w_g1, w_g6, ↓LA, LB, simprocAttr]
    refine pv_clear3 hS1 ha fun s2 lw2 hS2 hs2 => ?_
    simp only [wrap_succ hi (by omega), w_len, w_g4, ↓LA, LB, simprocAttr]
    exact nx_intro (by refine ⟨_, by omega, i + 1, _, _, _, rfl, by omega, (fun j h1 => by simp (disch := omega) only [getD_set_nn]; exact w_g5 j h1), hS2, (fun q h1 h2 => by rw [hs2 q h2]; exact hs1' q h1 h2), (by omega), Nat.zero_le _, ?_, ?_, ?_, ?_, rfl⟩ <;> simp only [w_len, w_g2, w_g3, LB, simprocAttr])
  · have hi2 : ((i : Int) < 4) = False := by simp; omega
    simp only [hi2, w_len, w_197, w_196, ↓LA, LB, simprocAttr]
    exact h _ _ _ _ (by simp only [List.length_set]; exact w_len) (fun j h1 => by simp (disch := omega) only [getD_set_nn]; exact a_1 j h1) a_3 (by omega)
end Go.Lift.K
namespace Go.Lift.K
open Go Go.Lift
set_option maxRecDepth 100000
theorem small_pats {l : List PatT} {n : Nat} (h : l.length ≤ n) (hn : n ≤ 1000000) (hb : l.any bigP = false) : patsSmall l := by
  refine ⟨by omega, fun x hx => ?_⟩
  have h1 := List.any_eq_false.1 hb x hx
  simp [bigP, longL] at h1
  unfold patSmall
  omega
theorem small_rules {r : RulesT} (h : bigRules r = false) : rulesSmall r ∧ (∀ x ∈ r.rels, x.name.length ≤ 40) := by
  simp only [bigRules, Bool.or_eq_false_iff, decide_eq_false_iff_not] at h
  obtain ⟨⟨⟨h1, h2⟩, h3⟩, h4⟩ := h
  refine ⟨⟨by omega, by omega, fun c hc => ?_⟩, fun x hx => ?_⟩
  · have h5 : bigC c = false := by simpa using List.any_eq_false.1 h4 c hc
    simp only [bigC, Bool.or_eq_false_iff, decide_eq_false_iff_not] at h5
    obtain ⟨⟨⟨⟨_, h6⟩, h7⟩, h8⟩, h9⟩ := h5
    exact ⟨small_pats (n := 6) (by omega) (by omega) h8, small_pats (n := 8) (by omega) (by omega) h9⟩
  · have h5 : bigR x = false := by simpa using List.any_eq_false.1 h3 x hx
    simp [bigR, longS] at h5
    omega
theorem small_goal {g : GoalT} (h : bigGoal g = false) : g.args.length ≤ 1000000 ∧ ∀ x ∈ g.args, treeSmall x := by
  simp only [bigGoal, Bool.or_eq_false_iff, decide_eq_false_iff_not] at h
  obtain ⟨⟨⟨h1, h2⟩, h3⟩, h4⟩ := h
  refine ⟨by omega, fun t ht => ?_⟩
  have h5 : greatT t = false := by simpa using List.any_eq_false.1 h4 t ht
  simp only [greatT, Bool.or_eq_false_iff, decide_eq_false_iff_not] at h5
  refine ⟨by omega, fun x hx => ?_⟩
  have h6 : greatN x = false := by simpa using List.any_eq_false.1 h5.2 x hx
  simp only [greatN, Bool.or_eq_false_iff, decide_eq_false_iff_not] at h6
  unfold nodeSmall
  omega
theorem small_type {t : TypeT} (h : greatTy t = false) : typeSmall t := by
  simp only [greatTy, Bool.or_eq_false_iff, decide_eq_false_iff_not] at h
  refine ⟨by omega, fun s hs => ?_⟩
  have h5 : greatS s = false := by simpa using List.any_eq_false.1 h.2 s hs
  simp only [greatS, Bool.or_eq_false_iff, decide_eq_false_iff_not] at h5
  refine ⟨by omega, fun x hx => ?_⟩
  have h6 : greatA x = false := by simpa using List.any_eq_false.1 h5.2 x hx
  simp only [greatA, Bool.or_eq_false_iff, decide_eq_false_iff_not] at h6
  unfold nodeSmall
  omega
def fine (r : RulesT) : Prop := r.ok ∧ ∀ x ∈ r.rels, x.name.length ≤ 40
theorem fine_none : fine ⟨[], []⟩ := ⟨⟨⟨by simp [LOk], by simp⟩, by simp [LOk], by simp⟩, by simp⟩
theorem fine_rels {r : RulesT} (h : fine r) : ∀ x ∈ r.rels, x.ok ∧ x.name.length ≤ 4611686018427387904 := fun x hx => ⟨h.1.1.2 x hx, by have := h.2 x hx; omega⟩
theorem fine_join {r q : RulesT} (hr : fine r) (hq : fine q) : fine (specJoin r q).1 := by
  unfold specJoin
  by_cases h1 : specCheck r ≠ 0
  · rw [if_pos h1]; exact fine_none
  by_cases h2 : specCheck q ≠ 0
  · rw [if_neg h1, if_pos h2]; exact fine_none
  by_cases h3 : fresh r q = false
  · rw [if_neg h1, if_neg h2, if_pos h3]; exact fine_none
  by_cases h4 : (8 : Int) < (r.rels.length + q.rels.length : Nat) ∨ (24 : Int) < (r.clauses.length + q.clauses.length : Nat)
  · rw [if_neg h1, if_neg h2, if_neg h3, if_pos h4]; exact fine_none
  rw [if_neg h1, if_neg h2, if_neg h3, if_neg h4]
  refine ⟨⟨⟨?_, fun x hx => ?_⟩, ?_, fun c hc => ?_⟩, fun x hx => ?_⟩
  · simp only [LOk, List.length_append]; omega
  · exact (List.mem_append.1 hx).elim (hr.1.1.2 x) (hq.1.1.2 x)
  · simp only [LOk, List.length_append]; omega
  · exact (List.mem_append.1 hc).elim (hr.1.2.2 c) (hq.1.2.2 c)
  · exact (List.mem_append.1 hx).elim (hr.2 x) (hq.2 x)
theorem setRank_mem {k : Int} : ∀ {l : List RelT} {n : Nat} {x : RelT}, x ∈ setRank l n k → ∃ y ∈ l, x.name = y.name ∧ x.arity = y.arity ∧ (x.rank = y.rank ∨ x.rank = k)
  | [], _, _, h => by cases h
  | y :: l, 0, x, h => by
    rcases List.mem_cons.1 h with rfl | h
    · exact ⟨y, List.mem_cons_self, rfl, rfl, .inr rfl⟩
    · exact ⟨x, List.mem_cons_of_mem _ h, rfl, rfl, .inl rfl⟩
  | y :: l, n + 1, x, h => by
    rcases List.mem_cons.1 h with rfl | h
    · exact ⟨x, List.mem_cons_self, rfl, rfl, .inl rfl⟩
    · obtain ⟨z, h1, h2⟩ := setRank_mem h
      exact ⟨z, List.mem_cons_of_mem _ h1, h2⟩
theorem fine_ranked {r : RulesT} (hr : fine r) {name : List Nat} {rank : Int} : fine (specRanked r name rank).1 := by
  unfold specRanked
  by_cases h1 : specCheck r ≠ 0
  · rw [if_pos h1]; exact fine_none
  by_cases h2 : relNo r.rels name < 0
  · rw [if_neg h1, if_pos h2]; exact fine_none
  by_cases h3 : rank < 0 ∨ 3 < rank
  · rw [if_neg h1, if_neg h2, if_pos h3]; exact fine_none
  rw [if_neg h1, if_neg h2, if_neg h3]
  refine ⟨⟨⟨?_, fun x hx => ?_⟩, hr.1.2.1, hr.1.2.2⟩, fun x hx => ?_⟩
  · have := hr.1.1.1; simpa only [LOk, setRank_len] using this
  · obtain ⟨y, hy, e1, e2, e3⟩ := setRank_mem hx
    have := hr.1.1.2 y hy
    refine ⟨by rw [e1]; exact this.1, by rw [e2]; exact this.2.1, ?_⟩
    rcases e3 with e3 | e3
    · rw [e3]; exact this.2.2
    · rw [e3]; unfold IOk; omega
  · obtain ⟨y, hy, e1, _⟩ := setRank_mem hx
    rw [e1]; exact hr.2 y hy
theorem sok_lt {l : List Nat} (h : ∀ c ∈ l, c < 256) (hn : l.length ≤ 1000) : SOk l := ⟨h, by omega⟩
theorem fine_typed {t : TypeT} (ht : t.ok) : fine (specTyped t).1 := by
  unfold specTyped
  by_cases h1 : specType t ≠ 0
  · rw [if_pos h1]; exact fine_none
  by_cases h2 : (8 : Int) < t.sorts.length ∨ (24 : Int) < (tyClauses t t.sorts.length).length
  · rw [if_neg h1, if_pos h2]; exact fine_none
  rw [if_neg h1, if_neg h2]
  obtain ⟨_, hsa⟩ := type_right (Decidable.of_not_not h1)
  have hnm : ∀ i, i < 24 → SOk (tyName i) := fun i hi => sok_lt (by simp [tyName]; omega) (by simp [tyName])
  refine ⟨⟨⟨?_, fun x hx => ?_⟩, ?_, fun c hc => ?_⟩, fun x hx => ?_⟩
  · simp only [LOk, tyRels, List.length_map, List.length_range]; omega
  · obtain ⟨i, hi, rfl⟩ := List.mem_map.1 hx
    have hi := List.mem_range.1 hi
    refine ⟨hnm i (by omega), show IOk 1 from ⟨by decide, by decide⟩, ?_⟩
    have : (t.sorts.getD i ⟨0, []⟩) ∈ t.sorts := by simp [hi]
    exact (ht.2.1 _ this).1
  · show (tyClauses t t.sorts.length).length ≤ 9223372036854775807; omega
  · obtain ⟨i, hi, hc⟩ := List.mem_flatMap.1 hc
    have hi := List.mem_range.1 hi
    obtain ⟨x, hx, rfl⟩ := List.mem_map.1 hc
    have hs : (t.sorts.getD i ⟨0, []⟩) ∈ t.sorts := by simp [hi]
    have hx1 := (hsa _ hs).2 x hx
    have hx2 := (ht.2.1 _ hs).2.2 x hx
    refine ⟨hnm i (by omega), ⟨by simp [LOk, tyClause], fun y hy => ?_⟩, ⟨?_, fun y hy => ?_⟩⟩
    · cases List.mem_singleton.1 hy
      refine ⟨hx2.1, ?_, fun z hz => ?_⟩
      · simp only [LOk, tyVars, List.length_map, List.length_range]; omega
      · obtain ⟨j, hj, rfl⟩ := List.mem_map.1 hz
        have hj := List.mem_range.1 hj
        exact sok_lt (by simp; omega) (by simp)
    · simp only [LOk, tyClause, List.length_map, List.length_range]; omega
    · obtain ⟨j, hj, rfl⟩ := List.mem_map.1 hy
      have hj := List.mem_range.1 hj
      have hkm : x.kids.getD j 0 ∈ x.kids := by simp [hj]
      have hk := kid_nat (hx1.2.2 _ hkm)
      refine ⟨hnm _ (by omega), by simp [LOk, tyAtom], fun z hz => ?_⟩
      cases List.mem_singleton.1 hz
      exact sok_lt (by simp; omega) (by simp)
  · obtain ⟨i, hi, rfl⟩ := List.mem_map.1 hx
    simp [tyRel, tyName]
theorem firstN_zero {f : Nat → Int} {n : Nat} (h : firstN f n = 0) : ∀ i, i < n → f i = 0 := fun i => by
  induction i using Nat.strongRecOn with
  | ind i ih =>
    intro hi
    by_cases h1 : f i = 0
    · exact h1
    · have := firstN_at hi (fun j hj => ih j hj (by omega)) h1
      exact (h1 (this.symm.trans h)).elim
theorem fine_eq {names : List (List Nat)} {kids : List Int} (hs : SsOk names) : fine (specEq names kids).1 := by
  unfold specEq
  by_cases h1 : (names.length : Int) ≠ kids.length
  · rw [if_pos h1]; exact fine_none
  by_cases h2 : (24 : Int) < names.length
  · rw [if_neg h1, if_pos h2]; exact fine_none
  by_cases h3 : firstN (eqErr names kids) names.length ≠ 0
  · rw [if_neg h1, if_neg h2, if_pos h3]; exact fine_none
  rw [if_neg h1, if_neg h2, if_neg h3]
  have hso : SOk sameS := sok_lt (by decide) (by decide)
  refine ⟨⟨⟨by simp [LOk], fun x hx => ?_⟩, ?_, fun c hc => ?_⟩, fun x hx => ?_⟩
  · cases List.mem_singleton.1 hx
    exact ⟨hso, show IOk 2 from ⟨by decide, by decide⟩, show IOk 1 from ⟨by decide, by decide⟩⟩
  · simp only [LOk, eqClauses_len]; omega
  · obtain ⟨i, hi, rfl⟩ := List.mem_map.1 hc
    have hi := List.mem_range.1 hi
    have he : eqErr names kids i = 0 := firstN_zero (Decidable.of_not_not h3) i hi
    have hk : 0 ≤ kids.getD i 0 ∧ kids.getD i 0 ≤ 4 := by
      unfold eqErr at he
      by_cases a : isName (names.getD i []) = false
      · rw [if_pos a] at he; cases he
      · rw [if_neg a] at he
        by_cases b : kids.getD i 0 < 0 ∨ 4 < kids.getD i 0
        · rw [if_pos b] at he; cases he
        · omega
    have hnm : SOk (names.getD i []) := by
      have : names.getD i [] ∈ names := by simp [hi]
      exact hs.2 _ this
    have hlt : ∀ b, b ≤ 4 → SsOk (letters b (kids.getD i 0).toNat) := fun b hb => by
      refine ⟨by simp only [LOk, letters_len]; omega, fun z hz => ?_⟩
      obtain ⟨j, hj, rfl⟩ := List.mem_map.1 hz
      have hj := List.mem_range.1 hj
      exact sok_lt (by simp; omega) (by simp)
    refine ⟨hso, ⟨by simp [LOk, eqClause], fun y hy => ?_⟩, ⟨?_, fun y hy => ?_⟩⟩
    · simp only [eqClause, List.mem_cons, List.not_mem_nil, or_false] at hy
      rcases hy with rfl | rfl
      · exact ⟨hnm, hlt 0 (by omega)⟩
      · exact ⟨hnm, hlt 4 (by omega)⟩
    · simp only [LOk, eqClause, List.length_map, List.length_range]; omega
    · obtain ⟨j, hj, rfl⟩ := List.mem_map.1 hy
      have hj := List.mem_range.1 hj
      refine ⟨hso, by simp [LOk, eqAtom], fun z hz => ?_⟩
      simp only [eqAtom, List.mem_cons, List.not_mem_nil, or_false] at hz
      rcases hz with rfl | rfl <;> exact sok_lt (by simp; omega) (by simp)
  · cases List.mem_singleton.1 hx
    decide
theorem pk_pats {s : List (Nat × Obj)} {S : Nat → Prop} {v : V} {l : List PatT} (hl : PatsOk l) (h : CQ s true S 2 v (.sl (l.map PatT.d))) : PK (A1 s S) 2 v :=
  pk_of (fun a es' ag h => by
    rcases h with ⟨_, cs, h, h1, _⟩ | ⟨_, _, h⟩
    · cases h; exact h1.symm
    · cases h) hl.1 (fun a ha cs h => by
    match cs, h with
    | [c, b], h => rw [cq_str h.1]; exact ⟨_, _, rfl, pk_strs (hl.2 a ha).2.1 h.2.1⟩
    | [], h => exact h.elim
    | [_], h => exact h.2.elim
    | _ :: _ :: _ :: _, h => exact h.2.2.elim) h
theorem pk_clauses {s : List (Nat × Obj)} {S : Nat → Prop} {v : V} {r : RulesT} (hr : r.ok) (h : CQ s true S 3 v (.sl (r.clauses.map ClauseT.d))) : PK (A2 s S) 3 v :=
  pk_of (fun a es' ag h => by
    rcases h with ⟨_, cs, h, h1, _⟩ | ⟨_, _, h⟩
    · cases h; exact h1.symm
    · cases h) hr.2.1 (fun a ha cs h => by
    match cs, h with
    | [c, b, d], h => rw [cq_str h.1]; exact ⟨_, _, _, rfl, pk_pats (hr.2.2 a ha).2.1 h.2.1, pk_pats (hr.2.2 a ha).2.2 h.2.2.1⟩
    | [], h => exact h.elim
    | [_], h => exact h.2.elim
    | [_, _], h => exact h.2.2.elim
    | _ :: _ :: _ :: _ :: _, h => exact h.2.2.2.elim) h
theorem pk_rels {s : List (Nat × Obj)} {S : Nat → Prop} {v : V} {r : RulesT} (hr : r.ok) (h : CQ s true S 1 v (.sl (r.rels.map RelT.d))) : PK (A3 s S) 3 v :=
  pk_of (fun a es' ag h => by
    rcases h with ⟨_, cs, h, h1, _⟩ | ⟨_, _, h⟩
    · cases h; exact h1.symm
    · cases h) hr.1.1 (fun a ha cs h => by
    match cs, h with
    | [c, b, d], h => rw [cq_str h.1, cq_int h.2.1, cq_int h.2.2.1]; exact ⟨_, _, _, _, _, rfl⟩
    | [], h => exact h.elim
    | [_], h => exact h.2.elim
    | [_, _], h => exact h.2.2.elim
    | _ :: _ :: _ :: _ :: _, h => exact h.2.2.2.elim) h
end Go.Lift.K
namespace Go.Lift.K
open Go Go.Lift
set_option maxRecDepth 100000
theorem goal_arr {s : List (Nat × Obj)} {k : Nat} {g : GoalT} (h : sget s k = some (.cells [.d (.str g.rel), .d (.sl (g.args.map TreeT.d))])) : snap s 0 snapDepth (.arr k 2 true 0 1) = some (.sl [g.d]) :=
  CQ.snap (s := s) (lv := false) (S := fun _ => True) (b := 0) (fun _ _ => Nat.zero_le _) (n := 1) (m := 12) (by decide) (cq_arr (k := k) [g.d] trivial h (by omega) (fun x hx => by cases List.mem_singleton.1 hx; exact elt_goal) rfl ⟨CQ.str, CQ.data, trivial⟩)
theorem sameGoal1 {g : GoalT} (hg : g.ok) {s : List (Nat × Obj)} {nx lw k k' : Nat} (h : sget s k = some (.cells [.d (.str g.rel), .d (.sl (g.args.map TreeT.d))])) (h' : sget s k' = some (.cells [.d (.str g.rel), .d (.sl (g.args.map TreeT.d))])) :
    callW G (.fn 26 [] []) [.arr k 2 true 0 1, .arr k' 2 true 0 1] { s := s, next := nx, low := lw } = some (.d (.bool true), { s := s, next := nx, low := lw }) := by
  refine live_pure (ds := [.sl [g.d], .sl [g.d]]) (rs := [.bool true]) T1.g26 rfl rfl ?_ rfl ?_
  · simp [toDAll, goal_arr h, goal_arr h']
  · have := sameGoals_ok (x := [g]) (y := [g]) (by simp [LOk]) (fun x hx => by cases List.mem_singleton.1 hx; exact hg) { s := [], next := 0, low := 0 }
    rw [D.beqL_refl] at this
    exact this
theorem tail_ok {e : List V} {s : List (Nat × Obj)} {nx lw : Nat} {r q : RulesT} {g : GoalT} {ty : TypeT} (hr : fine r) (hq : fine q) (hg : g.ok) (ht : ty.ok) (hAw : ∀ st, callW G (.fn 9 [] []) [] st = some (.d (.bool true), st))
    (w_len : e.length = 249) (w_8 : e.getD 8 .undef = .ptr 0 0) (w_9 : e.getD 9 .undef = .ptr 1 0) (w_10 : e.getD 10 .undef = .ptr 2 0) (w_11 : e.getD 11 .undef = .ptr 3 0)
    (w_17 : e.getD 17 .undef = .ptr 46 0) (w_18 : e.getD 18 .undef = .ptr 47 0) (w_19 : e.getD 19 .undef = .ptr 48 0) (w_20 : e.getD 20 .undef = .ptr 49 0)
    (w_c0 : sget s 0 = some (.cells [.d (.sl (r.rels.map RelT.d)), .d (.sl (r.clauses.map ClauseT.d))])) (w_c1 : sget s 1 = some (.cells [.d (.sl (q.rels.map RelT.d)), .d (.sl (q.clauses.map ClauseT.d))]))
    (w_c2 : sget s 2 = some (.cells [.d (.str g.rel), .d (.sl (g.args.map TreeT.d))])) (w_c3 : sget s 3 = some (.cells [.d (.sl (ty.sorts.map SortT.d)), .d (.int .i64 ty.start)]))
    (w_d0 : sget s 46 = some (.cells [.d (.sl (r.rels.map RelT.d)), .d (.sl (r.clauses.map ClauseT.d))])) (w_d1 : sget s 47 = some (.cells [.d (.sl (q.rels.map RelT.d)), .d (.sl (q.clauses.map ClauseT.d))]))
    (w_d2 : sget s 48 = some (.cells [.d (.str g.rel), .d (.sl (g.args.map TreeT.d))])) (w_d3 : sget s 49 = some (.cells [.d (.sl (ty.sorts.map SortT.d)), .d (.int .i64 ty.start)])) (hnx : 100 ≤ nx) :
    PC (evalG (callW G) roundsW none T1.q3_226 e { s := s, next := nx, low := lw }) (RP [.t 16] [.bool true]) .mk := by
  have hS1 : ∀ st, callW G (.fn 25 [] []) [.d (.agg [.sl (r.rels.map RelT.d), .sl (r.clauses.map ClauseT.d)]), .d (.agg [.sl (r.rels.map RelT.d), .sl (r.clauses.map ClauseT.d)])] st = some (.d (.bool true), st) := fun st => by
    have := same_ok hr.1 (fine_rels hr) (fine_rels hr) st
    rwa [D.beq_refl] at this
  have hS2 : ∀ st, callW G (.fn 25 [] []) [.d (.agg [.sl (q.rels.map RelT.d), .sl (q.clauses.map ClauseT.d)]), .d (.agg [.sl (q.rels.map RelT.d), .sl (q.clauses.map ClauseT.d)])] st = some (.d (.bool true), st) := fun st => by
    have := same_ok hq.1 (fine_rels hq) (fine_rels hq) st
    rwa [D.beq_refl] at this
  have hS3 : ∀ st, callW G (.fn 27 [] []) [.d (.agg [.sl (ty.sorts.map SortT.d), .int .i64 ty.start]), .d (.agg [.sl (ty.sorts.map SortT.d), .int .i64 ty.start])] st = some (.d (.bool true), st) := fun st => by
    have := sameType_ok ht (y := ty) st
    rwa [D.beq_refl] at this
  have hn : ∀ j, j < 100 → ∀ i, (nx + i = j) = False := fun j hj i => by simp; omega
  have hn0 := hn 0 (by omega)
  have hn1 := hn 1 (by omega)
  have hn2 := hn 2 (by omega)
  have hn3 := hn 3 (by omega)
  have hn4 := hn 46 (by omega)
  have hn5 := hn 47 (by omega)
  have hn6 := hn 48 (by omega)
  have hn7 := hn 49 (by omega)
  have hG := fun s nx lw k k' h h' => sameGoal1 hg (s := s) (nx := nx) (lw := lw) (k := k) (k' := k') h h'
  simp only [hS1, hS2, hS3, hAw, hG, hn2, hn3, hn7, w_len, w_8, w_9, w_10, w_11, w_17, w_18, w_19, w_20, w_c0, w_c1, w_c2, w_c3, w_d0, w_d1, w_d2, w_d3, ↓LA, LB, simprocAttr]
  exact rq1 rfl
end Go.Lift.K
namespace Go.Lift.K
open Go Go.Lift
set_option maxRecDepth 100000
theorem rest_ok {e : List V} {s : List (Nat × Obj)} {nx lw kb kc kd : Nat} {a1 b1 a2 b2 a3 b3 a4 b4 : V} {r q : RulesT} {g : GoalT} {ty : TypeT} (hr : fine r) (hq : fine q) (hg : g.ok) (ht : ty.ok) (hAw : ∀ st, callW G (.fn 9 [] []) [] st = some (.d (.bool true), st))
    (w_len : e.length = 249) (w_8 : e.getD 8 .undef = .ptr 0 0) (w_9 : e.getD 9 .undef = .ptr 1 0) (w_10 : e.getD 10 .undef = .ptr 2 0) (w_11 : e.getD 11 .undef = .ptr 3 0)
    (w_17 : e.getD 17 .undef = .ptr 46 0) (w_18 : e.getD 18 .undef = .ptr 47 0) (w_19 : e.getD 19 .undef = .ptr 48 0) (w_20 : e.getD 20 .undef = .ptr 49 0)
    (w_29 : e.getD 29 .undef = .ptr 95 0) (w_31 : e.getD 31 .undef = .ptr kb 0) (w_33 : e.getD 33 .undef = .ptr kc 0) (w_35 : e.getD 35 .undef = .ptr kd 0)
    (w_c0 : sget s 0 = some (.cells [.d (.sl (r.rels.map RelT.d)), .d (.sl (r.clauses.map ClauseT.d))])) (w_c1 : sget s 1 = some (.cells [.d (.sl (q.rels.map RelT.d)), .d (.sl (q.clauses.map ClauseT.d))]))
    (w_c2 : sget s 2 = some (.cells [.d (.str g.rel), .d (.sl (g.args.map TreeT.d))])) (w_c3 : sget s 3 = some (.cells [.d (.sl (ty.sorts.map SortT.d)), .d (.int .i64 ty.start)]))
    (w_d0 : sget s 46 = some (.cells [.d (.sl (r.rels.map RelT.d)), .d (.sl (r.clauses.map ClauseT.d))])) (w_d1 : sget s 47 = some (.cells [.d (.sl (q.rels.map RelT.d)), .d (.sl (q.clauses.map ClauseT.d))]))
    (w_d2 : sget s 48 = some (.cells [.d (.str g.rel), .d (.sl (g.args.map TreeT.d))])) (w_d3 : sget s 49 = some (.cells [.d (.sl (ty.sorts.map SortT.d)), .d (.int .i64 ty.start)])) (hnx : 100 ≤ nx)
    (w_f1 : sget s 95 = some (.cells [a1, b1])) (w_f2 : sget s kb = some (.cells [a2, b2])) (w_f3 : sget s kc = some (.cells [a3, b3])) (w_f4 : sget s kd = some (.cells [a4, b4])) (hkb : kb < nx) (hkc : kc < nx) (hkd : kd < nx)
    (p1 : PK (A3 s (Iv 98 nx)) 3 a1) (q1 : PK (A2 s (Iv 98 nx)) 3 b1) (p2 : PK (A3 s (Iv 98 nx)) 3 a2) (q2 : PK (A2 s (Iv 98 nx)) 3 b2)
    (p3 : PK (A3 s (Iv 98 nx)) 3 a3) (q3 : PK (A2 s (Iv 98 nx)) 3 b3) (p4 : PK (A3 s (Iv 98 nx)) 3 a4) (q4 : PK (A2 s (Iv 98 nx)) 3 b4) :
    PC (evalG (callW G) roundsW none T1.q3_191 e { s := s, next := nx, low := lw }) (RP [.t 16] [.bool true]) .mk := by
  have x1 := p1.cell
  have x2 := q1.cell
  have x3 := p2.cell
  have x4 := q2.cell
  have x5 := p3.cell
  have x6 := q3.cell
  have x7 := p4.cell
  have x8 := q4.cell
  simp only [x1.1, x2.1, x3.1, x4.1, x5.1, x6.1, x7.1, x8.1, w_len, w_29, w_31, w_33, w_35, w_f1, w_f2, w_f3, w_f4, ↓LA, LB, simprocAttr]
  refine clear_rules (z0 := s) (S := Iv 98 nx) (ka := nx + 4) (CA := [a1, b1, a2, b2, a3, b3, a4, b4]) ?_ ?_ ?_ ?_ (by omega) (fun h => by have := h.2; omega) sget_cons_eq ?_ (Sto.self.frame ?_) (fun j hj => by have := hj.2; omega) fun e' s' nx' lw' he0 he1 hs' hnx' => ?_
  · simp only [w_len, LB, simprocAttr]
  · simp only [w_len, LB, simprocAttr]
  · simp only [w_len, LB, simprocAttr]
  · simp only [w_len, LB, simprocAttr]
  · exact ⟨[a1, b1], [a2, b2, a3, b3, a4, b4], rfl, ⟨_, _, rfl, p1, q1⟩, [a2, b2], [a3, b3, a4, b4], rfl, ⟨_, _, rfl, p2, q2⟩, [a3, b3], [a4, b4], rfl, ⟨_, _, rfl, p3, q3⟩, [a4, b4], [], rfl, ⟨_, _, rfl, p4, q4⟩, rfl⟩
  · intro j hj
    have := hj.2
    exact sget_cons_ne (by omega)
  have hst : ∀ i, i < 38 → e'.getD i .undef = e.getD i .undef := fun i hi => by rw [he1 i hi]; simp (disch := omega) only [getD_set_nn]
  have hso : ∀ j, j < 98 → sget s' j = sget s j := fun j hj => by rw [hs' j (by omega) (fun h => by have := h.1; omega)]; exact sget_cons_ne (by omega)
  simp only [↓outB_eq, ↓onN_nrm]
  have hcc := hso 0 (by omega)
  refine tail_ok hr hq hg ht hAw he0 ((hst 8 (by omega)).trans w_8) ((hst 9 (by omega)).trans w_9) ((hst 10 (by omega)).trans w_10) ((hst 11 (by omega)).trans w_11) ((hst 17 (by omega)).trans w_17) ((hst 18 (by omega)).trans w_18) ((hst 19 (by omega)).trans w_19) ((hst 20 (by omega)).trans w_20)
    ((hso 0 (by omega)).trans w_c0) ((hso 1 (by omega)).trans w_c1) ((hso 2 (by omega)).trans w_c2) ((hso 3 (by omega)).trans w_c3) ((hso 46 (by omega)).trans w_d0) ((hso 47 (by omega)).trans w_d1) ((hso 48 (by omega)).trans w_d2) ((hso 49 (by omega)).trans w_d3) (by omega)
end Go.Lift.K
namespace Go.Lift.K
open Go Go.Lift
set_option maxRecDepth 100000
theorem same_live {x : RulesT} (hx : fine x) {s : List (Nat × Obj)} {S : Nat → Prop} {a b : V} (ha : CQ s true S 1 a (.sl (x.rels.map RelT.d))) (hb : CQ s true S 3 b (.sl (x.clauses.map ClauseT.d))) (nx lw : Nat) :
    callW G (.fn 25 [] []) [mkAgg [a, b], .d (.agg [.sl (x.rels.map RelT.d), .sl (x.clauses.map ClauseT.d)])] { s := s, next := nx, low := lw } = some (.d (.bool true), { s := s, next := nx, low := lw }) := by
  have h1 : snap s 0 snapDepth (mkAgg [a, b]) = some x.d := snap_mkP (S := S) (n := 3) (m := 11) (fun j _ => Nat.zero_le j) (by decide) ⟨ha.dep (by omega), hb, trivial⟩
  refine live_pure (ds := [x.d, x.d]) (rs := [.bool true]) T1.g25 rfl rfl ?_ rfl ?_
  · have h2 : snap s 0 snapDepth (.d x.d) = some x.d := rfl
    simp only [RulesT.d] at h1 h2
    simp [toDAll, h1, h2, RulesT.d]
  · have := same_ok hx.1 (fine_rels hx) (fine_rels hx) { s := [], next := 0, low := 0 }
    rw [D.beq_refl] at this
    exact this
theorem mid_ok {e : List V} {s : List (Nat × Obj)} {nx lw kb kc kd : Nat} {a1 b1 a2 b2 a3 b3 a4 b4 : V} {x1 x2 x3 x4 : RulesT} {n1 n2 n3 n4 : Int} {r q : RulesT} {g : GoalT} {ty : TypeT} (hr : fine r) (hq : fine q) (hg : g.ok) (ht : ty.ok) (hAw : ∀ st, callW G (.fn 9 [] []) [] st = some (.d (.bool true), st))
    (hx1 : fine x1) (hx2 : fine x2) (hx3 : fine x3) (hx4 : fine x4)
    (w_len : e.length = 249) (w_8 : e.getD 8 .undef = .ptr 0 0) (w_9 : e.getD 9 .undef = .ptr 1 0) (w_10 : e.getD 10 .undef = .ptr 2 0) (w_11 : e.getD 11 .undef = .ptr 3 0)
    (w_17 : e.getD 17 .undef = .ptr 46 0) (w_18 : e.getD 18 .undef = .ptr 47 0) (w_19 : e.getD 19 .undef = .ptr 48 0) (w_20 : e.getD 20 .undef = .ptr 49 0)
    (w_21 : e.getD 21 .undef = .ptr 59 0) (w_23 : e.getD 23 .undef = .ptr 68 0) (w_25 : e.getD 25 .undef = .ptr 77 0) (w_27 : e.getD 27 .undef = .ptr 87 0)
    (w_22 : e.getD 22 .undef = .d (.int .i64 n1)) (w_24 : e.getD 24 .undef = .d (.int .i64 n2)) (w_26 : e.getD 26 .undef = .d (.int .i64 n3)) (w_28 : e.getD 28 .undef = .d (.int .i64 n4))
    (w_29 : e.getD 29 .undef = .ptr 95 0) (w_31 : e.getD 31 .undef = .ptr kb 0) (w_33 : e.getD 33 .undef = .ptr kc 0) (w_35 : e.getD 35 .undef = .ptr kd 0)
    (w_30 : e.getD 30 .undef = .d (.int .i64 n1)) (w_32 : e.getD 32 .undef = .d (.int .i64 n2)) (w_34 : e.getD 34 .undef = .d (.int .i64 n3)) (w_36 : e.getD 36 .undef = .d (.int .i64 n4))
    (w_c0 : sget s 0 = some (.cells [.d (.sl (r.rels.map RelT.d)), .d (.sl (r.clauses.map ClauseT.d))])) (w_c1 : sget s 1 = some (.cells [.d (.sl (q.rels.map RelT.d)), .d (.sl (q.clauses.map ClauseT.d))]))
    (w_c2 : sget s 2 = some (.cells [.d (.str g.rel), .d (.sl (g.args.map TreeT.d))])) (w_c3 : sget s 3 = some (.cells [.d (.sl (ty.sorts.map SortT.d)), .d (.int .i64 ty.start)]))
    (w_d0 : sget s 46 = some (.cells [.d (.sl (r.rels.map RelT.d)), .d (.sl (r.clauses.map ClauseT.d))])) (w_d1 : sget s 47 = some (.cells [.d (.sl (q.rels.map RelT.d)), .d (.sl (q.clauses.map ClauseT.d))]))
    (w_d2 : sget s 48 = some (.cells [.d (.str g.rel), .d (.sl (g.args.map TreeT.d))])) (w_d3 : sget s 49 = some (.cells [.d (.sl (ty.sorts.map SortT.d)), .d (.int .i64 ty.start)]))
    (w_e1 : sget s 59 = some (.cells [.d (.sl (x1.rels.map RelT.d)), .d (.sl (x1.clauses.map ClauseT.d))])) (w_e2 : sget s 68 = some (.cells [.d (.sl (x2.rels.map RelT.d)), .d (.sl (x2.clauses.map ClauseT.d))]))
    (w_e3 : sget s 77 = some (.cells [.d (.sl (x3.rels.map RelT.d)), .d (.sl (x3.clauses.map ClauseT.d))])) (w_e4 : sget s 87 = some (.cells [.d (.sl (x4.rels.map RelT.d)), .d (.sl (x4.clauses.map ClauseT.d))])) (hnx : 100 ≤ nx)
    (w_f1 : sget s 95 = some (.cells [a1, b1])) (w_f2 : sget s kb = some (.cells [a2, b2])) (w_f3 : sget s kc = some (.cells [a3, b3])) (w_f4 : sget s kd = some (.cells [a4, b4])) (hkb : kb < nx) (hkc : kc < nx) (hkd : kd < nx)
    (p1 : CQ s true (Iv 98 nx) 1 a1 (.sl (x1.rels.map RelT.d))) (q1 : CQ s true (Iv 98 nx) 3 b1 (.sl (x1.clauses.map ClauseT.d))) (p2 : CQ s true (Iv 98 nx) 1 a2 (.sl (x2.rels.map RelT.d))) (q2 : CQ s true (Iv 98 nx) 3 b2 (.sl (x2.clauses.map ClauseT.d)))
    (p3 : CQ s true (Iv 98 nx) 1 a3 (.sl (x3.rels.map RelT.d))) (q3 : CQ s true (Iv 98 nx) 3 b3 (.sl (x3.clauses.map ClauseT.d))) (p4 : CQ s true (Iv 98 nx) 1 a4 (.sl (x4.rels.map RelT.d))) (q4 : CQ s true (Iv 98 nx) 3 b4 (.sl (x4.clauses.map ClauseT.d))) :
    PC (evalG (callW G) roundsW none T1.q3_133 e { s := s, next := nx, low := lw }) (RP [.t 16] [.bool true]) .mk := by
  have y1 := p1.cell
  have y2 := q1.cell
  have y3 := p2.cell
  have y4 := q2.cell
  have y5 := p3.cell
  have y6 := q3.cell
  have y7 := p4.cell
  have y8 := q4.cell
  have hC1 : ∀ st, callW G (.fn 21 [] []) [.d (.agg [.sl (r.rels.map RelT.d), .sl (r.clauses.map ClauseT.d)])] st = some (.d (.int .i64 (specCheck r)), st) := fun st => pcheck_ok hr.1 st
  have hC2 : ∀ st, callW G (.fn 22 [] []) [.d (.agg [.sl (r.rels.map RelT.d), .sl (r.clauses.map ClauseT.d)])] st = some (.d (.int .i64 (specCheck r)), st) := fun st => check12_ok hr.1 st
  have hC3 : ∀ st, callW G (.fn 23 [] []) [.d (.agg [.sl (r.rels.map RelT.d), .sl (r.clauses.map ClauseT.d)]), .d (.agg [.str g.rel, .sl (g.args.map TreeT.d)])] st = some (.d (.int .i64 (specGoal r g)), st) := fun st => pgoal_ok hr.1 hg st
  have hC4 : ∀ st, callW G (.fn 24 [] []) [.d (.agg [.sl (r.rels.map RelT.d), .sl (r.clauses.map ClauseT.d)]), .d (.agg [.str g.rel, .sl (g.args.map TreeT.d)])] st = some (.d (.int .i64 (specGoal r g)), st) := fun st => goal12_ok hr.1 hg st
  have hL1 := same_live hx1 p1 q1
  have hL2 := same_live hx2 p2 q2
  have hL3 := same_live hx3 p3 q3
  have hL4 := same_live hx4 p4 q4
  obtain ⟨R, hR⟩ : ∃ R : IC, R = T1.q3_191 := ⟨_, rfl⟩
  delta T1.q3_133
  rw [← hR]
  simp only [hC1, hC2, hC3, hC4, hL1, hL2, hL3, hL4, w_len, w_8, w_10, w_17, w_19, w_21, w_22, w_23, w_24, w_25, w_26, w_27, w_28, w_29, w_30, w_31, w_32, w_33, w_34, w_35, w_36, w_c0, w_c2, w_d0, w_d2, w_e1, w_e2, w_e3, w_e4, w_f1, w_f2, w_f3, w_f4, ↓LA, LB, simprocAttr]
  rw [hR]
  have hm : ∀ j, Iv 98 nx j → Iv 98 (nx + 58) j := fun j h => ⟨h.1, by have := h.2; omega⟩
  refine rest_ok hr hq hg ht hAw ?_ ?_ ?_ ?_ ?_ ?_ ?_ ?_ ?_ ?_ ?_ ?_ ?_ w_c0 w_c1 w_c2 w_c3 w_d0 w_d1 w_d2 w_d3 (by omega) w_f1 w_f2 w_f3 w_f4 (by omega) (by omega) (by omega)
    (pk_rels hx1.1 (p1.mono hm)) (pk_clauses hx1.1 (q1.mono hm)) (pk_rels hx2.1 (p2.mono hm)) (pk_clauses hx2.1 (q2.mono hm)) (pk_rels hx3.1 (p3.mono hm)) (pk_clauses hx3.1 (q3.mono hm)) (pk_rels hx4.1 (p4.mono hm)) (pk_clauses hx4.1 (q4.mono hm)) <;> simp only [w_len, w_8, w_9, w_10, w_11, w_17, w_18, w_19, w_20, w_29, w_31, w_33, w_35, LB, simprocAttr]
end Go.Lift.K
