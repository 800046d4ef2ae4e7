/- Part C5 of the proof. -/
import Derived.Test.YtgifbdpjlibbdaaGreatDoorC4
import Derived.Test.YtgifbdpjlibbdaaGreatDoorB4
import Derived.Test.YtgifbdpjlibbdaaGreatDoorA7
set_option linter.all false
namespace Go.Lift.K
open Go Go.Lift Classical
set_option maxRecDepth 100000
theorem zwj {α : Type} {f : α → Int} {l : List α} (h : z0p f l = 0) : ∀ x ∈ l, f x = 0 := by
 intro t ht
 apply Classical.byContradiction
 intro h0
 unfold z0p at h
 cases hf : l.find? (fun t => decide (f t ≠ 0)) with
 | none =>
  rw [List.find?_eq_none] at hf
  have := hf t ht
  simp at this
  exact h0 this
 | some u =>
  rw [hf] at h
  have := List.find?_some hf
  simp at this
  exact this h
theorem zto {p : PatT} (h : bigP p = false) : p.vars.length ≤ 9 := by
 simp [bigP, zi7] at h
 omega
theorem z8j {r : RulesT} (h : z22 r = false) : r.clauses.length ≤ 30 ∧ ∀ c ∈ r.clauses, c.head.length ≤ 6 ∧ c.body.length ≤ 8 ∧ ∀ p ∈ c.body, p.vars.length ≤ 9 := by
 simp only [z22, Bool.or_eq_false_iff, decide_eq_false_iff_not] at h
 obtain ⟨⟨⟨h1, h2⟩, h3⟩, h4⟩ := h
 refine ⟨by omega, fun c hc => ?_⟩
 have h5 : bigC c = false := by simpa using List.any_eq_false.1 h4 c hc
 simp only [bigC, Bool.or_eq_false_iff, decide_eq_false_iff_not] at h5
 obtain ⟨⟨⟨⟨_, h6⟩, h7⟩, h8⟩, h9⟩ := h5
 exact ⟨by omega, by omega, fun p hp => zto (by simpa using List.any_eq_false.1 h9 p hp)⟩
theorem z3r {g : GoalT} (h : z2y g = false) : g.args.length ≤ 6 := by
 simp only [z2y, Bool.or_eq_false_iff, decide_eq_false_iff_not] at h
 omega
theorem z8s {r : RulesT} {g : GoalT} (hg : g.ok) (h : z1m r g = 0) : Og g := by
 apply zxp hg
 unfold z1m at h
 by_cases h1 : z1c r ≠ 0
 ·rw [if_pos h1] at h; exact absurd h h1
 ·rw [if_neg h1] at h
  cases hf : r.rels.find? (isR g.rel) with
  | none => rw [hf] at h; simp at h
  | some x =>
   rw [hf] at h
   simp only at h
   by_cases h2 : (g.args.length : Int) ≠ x.arity
   ·rw [if_pos h2] at h; simp at h
   ·rw [if_neg h2] at h; exact h
structure Cf (c : ClauseT) (g : GoalT) : Prop where
 len : c.rel = g.rel → c.head.length = g.args.length
 hd : ∀ p ∈ c.head, p.vars.length ≤ 4 ∧ (p.name = [] → p.vars.length = 1) ∧ ∀ v ∈ p.vars, v.length ≤ 8
 th : ∀ g', ∀ p ∈ c.body, ∀ v ∈ p.vars, ∃ x ∈ bndN c g' c.head.length, x.1 = v
theorem zc2 {r : RulesT} {g : GoalT} (h : z1m r g = 0) {c : ClauseT} (hc : c ∈ r.clauses) : Cf c g := by
 unfold z1m at h
 by_cases h1 : z1c r ≠ 0
 ·rw [if_pos h1] at h; exact absurd h h1
 rw [if_neg h1] at h
 have h1 : z1c r = 0 := Classical.byContradiction h1
 have hcl : z17 r c = 0 := by
  unfold z1c at h1
  by_cases e1 : ((r.rels.length : Int) < 1 ∨ (8 : Int) < r.rels.length) ∨ (24 : Int) < r.clauses.length
  ·rw [if_pos e1] at h1; simp at h1
  ·rw [if_neg e1] at h1
   by_cases e2 : zda (fun i => z1b r i (r.rels.getD i ⟨[], 0, 0⟩)) r.rels.length ≠ 0
   ·rw [if_pos e2] at h1; exact absurd h1 e2
   ·rw [if_neg e2] at h1; exact zwj h1 c hc
 unfold z17 at hcl
 cases hf : r.rels.find? (isR c.rel) with
 | none => rw [hf] at hcl; simp at hcl
 | some x =>
  rw [hf] at hcl
  simp only at hcl
  by_cases e1 : (c.head.length : Int) ≠ x.arity ∨ (4 : Int) < c.body.length ∨ c.head.all few = false
  ·rw [if_pos e1] at hcl; simp at hcl
  rw [if_neg e1] at hcl
  by_cases e2 : c.head.all nmd = false
  ·rw [if_pos e2] at hcl; simp at hcl
  rw [if_neg e2] at hcl
  have a1 : (c.head.length : Int) = x.arity := Classical.byContradiction fun k => e1 (.inl k)
  have a2 : c.head.all few = true := by
   cases hq : c.head.all few with
   | true => rfl
   | false => exact absurd (.inr (.inr hq)) e1
  have a3 : c.head.all nmd = true := by
   cases hq : c.head.all nmd with
   | true => rfl
   | false => exact absurd hq e2
  refine ⟨fun e => ?_, fun p hp => ?_, fun g' p hp v hv => ?_⟩
  ·rw [← e, hf] at h
   simp only at h
   by_cases e3 : (g.args.length : Int) ≠ x.arity
   ·rw [if_pos e3] at h; simp at h
   ·have : (g.args.length : Int) = x.arity := Classical.byContradiction e3
    omega
  ·have f1 := List.all_eq_true.1 a2 p hp
   have f2 := List.all_eq_true.1 a3 p hp
   simp only [few, nmd, Bool.and_eq_true, decide_eq_true_eq, Bool.or_eq_true, Bool.not_eq_true', decide_eq_false_iff_not] at f1 f2
   refine ⟨f1.1, fun e => f1.2.resolve_left (fun k => k e), fun v hv => zjm (List.all_eq_true.1 f2.2 v hv)⟩
  ·have f1 := zwj hcl p hp
   unfold z2p at f1
   cases hf2 : r.rels.find? (isR p.name) with
   | none => rw [hf2] at f1; simp at f1
   | some y =>
    rw [hf2] at f1
    simp only at f1
    by_cases e3 : (p.vars.length : Int) ≠ y.arity
    ·rw [if_pos e3] at f1; simp at f1
    rw [if_neg e3] at f1
    by_cases e4 : p.vars.all (z39 c.head) = false
    ·rw [if_pos e4] at f1; simp at f1
    have e5 : p.vars.all (z39 c.head) = true := by
     cases hq : p.vars.all (z39 c.head) with
     | true => rfl
     | false => exact absurd hq e4
    have e6 := List.all_eq_true.1 e5 v hv
    unfold z39 at e6
    obtain ⟨q, hq, e7⟩ := List.any_eq_true.1 e6
    obtain ⟨w, hw, e8⟩ := List.any_eq_true.1 e7
    have e9 := of_decide_eq_true e8
    subst e9
    obtain ⟨i, hi, rfl⟩ := List.mem_iff_getElem.1 hq
    obtain ⟨k, hk, rfl⟩ := List.mem_iff_getElem.1 hw
    refine ⟨subE c g' i k, z9o hi (by rw [zgf hi]; exact hk), ?_⟩
    show (Go.Lift.K.hd c i).vars.getD k [] = _
    rw [zgf hi, List.getD_eq_getElem?_getD, List.getElem?_eq_getElem hk]
    rfl
noncomputable def fitB (r : RulesT) (n : Int) (g : GoalT) : Bool := decide (z1i r n g = 0) && decide (fitS (r.clauses.getD n.toNat ⟨[], [], []⟩) (z18 g))
noncomputable def z4t (r : RulesT) (n : Int) (g : GoalT) : Int := if z1i r n g ≠ 0 then z1i r n g else if fitB r n g = true then 0 else 7
noncomputable def z2b (r : RulesT) (n : Int) (g : GoalT) : List GoalT := if fitB r n g = true then z87 (r.clauses.getD n.toNat ⟨[], [], []⟩) (z18 g) else []
theorem z66 {r : RulesT} {n : Int} {g : GoalT} (h : z1i r n g = 0) : z1m r g = 0 ∧ 0 ≤ n ∧ n < r.clauses.length := by
 unfold z1i at h
 by_cases h1 : z1m r g = 0
 ·rw [if_pos h1] at h
  by_cases h2 : n < 0 ∨ (r.clauses.length : Int) ≤ n
  ·rw [if_pos h2] at h; simp at h
  ·exact ⟨h1, by omega, by omega⟩
 ·rw [if_neg h1] at h; exact absurd h h1
theorem zg3 {r : RulesT} (hbr : z22 r = false) {g : GoalT} (hg : g.ok) (hbg : z2y g = false) {n : Nat} (h : z1m r g = 0) (hn : n < r.clauses.length) (st : St) :
  z05 G (.fn 50 [] []) [.d r.clauses[n].d, .d (z18 g).d] st = some (tupV ((z6a r.clauses[n] (z18 g)).map V.d), st) := by
 have hc := zc2 h (List.getElem_mem hn)
 obtain ⟨b1, b2⟩ := z8j hbr
 obtain ⟨c1, c2, c3⟩ := b2 _ (List.getElem_mem hn)
 have d1 := z3r hbg
 have hl : (z18 g).args.length = g.args.length := by show (g.args.map z1o).length = _; rw [List.length_map]
 exact zor (z7t (z8s hg h)) (by omega) (by omega) (fun e => by rw [hl]; exact hc.len e) hc.hd (by omega) (fun p hp => by have := c3 p hp; omega) (hc.th _) st
theorem ztj {r : RulesT} (hr : r.ok) (hbr : z22 r = false) {g : GoalT} (hg : g.ok) (hbg : z2y g = false) {n : Int} (st : St) :
  z05 G (.fn 13 [] []) [.d r.d, .d (.int .i64 n), .d g.d] st = some (.tup [.d (.bool (fitB r n g)), .d (.int .i64 (z1i r n g))], st) := by
 have hC := fun st => zc3 hr (n := n) hg st
 have d1 := z3r hbg
 have hx0 : ∀ a b : V, [a, b][0]? = some a := fun _ _ => rfl
 have hx1 : ∀ a b : V, [a, b][1]? = some b := fun _ _ => rfl
 refine z0f (ds := [r.d, .int .i64 n, g.d]) (rs := [.bool (fitB r n g), .int .i64 (z1i r n g)]) T1.g13 rfl rfl (fun e w_len harg => ?_) st
 have w_len : e.length = 30 := w_len
 have w_0 := harg 0 (by simp)
 have w_1 := harg 1 (by simp)
 have w_2 := harg 2 (by simp)
 clear harg
 simp only [List.map_cons, List.map_nil, List.getD_cons_zero, List.getD_cons_succ] at w_0 w_1 w_2
 by_cases h0 : z1i r n g = 0
 ·obtain ⟨h1, h2, h3⟩ := z66 h0
  obtain ⟨k, rfl⟩ : ∃ k : Nat, n = (k : Nat) := ⟨n.toNat, by omega⟩
  have hk : k < r.clauses.length := by omega
  have hL := fun st => zb0 (by omega) (z8s hg h1) st
  have hB := fun st => zg3 hbr hg hbg h1 hk st
  have hge : r.clauses.getD ((k : Nat) : Int).toNat ⟨[], [], []⟩ = r.clauses[k] := by simp [hk]
  have hfb : fitB r k g = decide (fitS r.clauses[k] (z18 g)) := by unfold fitB; rw [hge, h0]; simp
  rw [hfb]
  simp only [RulesT.d, GoalT.d, ClauseT.d] at hC hL hB
  by_cases hf : fitS r.clauses[k] (z18 g)
  ·have hD : z6a r.clauses[k] (z18 g) = _ := if_pos hf
   rw [hD] at hB
   simp only [List.map_cons, List.map_nil, tupV] at hB
   simp only [T1.i13, RulesT.d, GoalT.d, hC, h0, hL, z2a hk, hB, hx0, hx1, w_len, w_0, w_1, w_2, ↓LA, LB, simprocAttr]
   exact rq2 (by simp [hf])
  ·have hD : z6a r.clauses[k] (z18 g) = _ := if_neg hf
   rw [hD] at hB
   simp only [List.map_cons, List.map_nil, tupV] at hB
   simp only [T1.i13, RulesT.d, GoalT.d, hC, h0, hL, z2a hk, hB, hx0, hx1, w_len, w_0, w_1, w_2, ↓LA, LB, simprocAttr]
   exact rq2 (by simp [hf])
 ·have hfb : fitB r n g = false := by unfold fitB; simp [h0]
  simp only [RulesT.d, GoalT.d] at hC
  simp only [T1.i13, RulesT.d, GoalT.d, hC, h0, w_len, w_0, w_1, w_2, ↓LA, LB, simprocAttr]
  exact rq2 (by rw [hfb])
theorem zlx {r : RulesT} (hr : r.ok) (hbr : z22 r = false) {g : GoalT} (hg : g.ok) (hbg : z2y g = false) {n : Int} (st : St) :
  z05 G (.fn 14 [] []) [.d r.d, .d (.int .i64 n), .d g.d] st = some (.tup [.d (.sl ((z2b r n g).map GoalT.d)), .d (.int .i64 (z4t r n g))], st) := by
 have hC := fun st => zc3 hr (n := n) hg st
 have d1 := z3r hbg
 have hx0 : ∀ a b : V, [a, b][0]? = some a := fun _ _ => rfl
 have hx1 : ∀ a b : V, [a, b][1]? = some b := fun _ _ => rfl
 have hns : ∀ s, snap s 0 z07 .nilS = some (.sl []) := fun s => by simp [snap, z07]
 refine z0f (ds := [r.d, .int .i64 n, g.d]) (rs := [.sl ((z2b r n g).map GoalT.d), .int .i64 (z4t r n g)]) T1.g14 rfl rfl (fun e w_len harg => ?_) st
 have w_len : e.length = 32 := w_len
 have w_0 := harg 0 (by simp)
 have w_1 := harg 1 (by simp)
 have w_2 := harg 2 (by simp)
 clear harg
 simp only [List.map_cons, List.map_nil, List.getD_cons_zero, List.getD_cons_succ] at w_0 w_1 w_2
 by_cases h0 : z1i r n g = 0
 ·obtain ⟨h1, h2, h3⟩ := z66 h0
  obtain ⟨k, rfl⟩ : ∃ k : Nat, n = (k : Nat) := ⟨n.toNat, by omega⟩
  have hk : k < r.clauses.length := by omega
  have hL := fun st => zb0 (by omega) (z8s hg h1) st
  have hB := fun st => zg3 hbr hg hbg h1 hk st
  have hge : r.clauses.getD ((k : Nat) : Int).toNat ⟨[], [], []⟩ = r.clauses[k] := by simp [hk]
  have hfb : fitB r k g = decide (fitS r.clauses[k] (z18 g)) := by unfold fitB; rw [hge, h0]; simp
  simp only [RulesT.d, GoalT.d, ClauseT.d] at hC hL hB
  by_cases hf : fitS r.clauses[k] (z18 g)
  ·have hD : z6a r.clauses[k] (z18 g) = _ := if_pos hf
   rw [hD] at hB
   have e1 : z2b r k g = z87 r.clauses[k] (z18 g) := by unfold z2b; rw [hfb, hge, if_pos (decide_eq_true hf)]
   have e2 : z4t r k g = 0 := by unfold z4t; rw [if_neg (fun e => e h0), hfb, if_pos (decide_eq_true hf)]
   rw [e1, e2]
   simp only [List.map_cons, List.map_nil, tupV] at hB
   simp only [T1.i14, RulesT.d, GoalT.d, hC, h0, hL, z2a hk, hB, hx0, hx1, w_len, w_0, w_1, w_2, ↓LA, LB, simprocAttr]
   exact rq2 rfl
  ·have hD : z6a r.clauses[k] (z18 g) = _ := if_neg hf
   rw [hD] at hB
   have e1 : z2b r k g = [] := by unfold z2b; rw [hfb, if_neg (by simp [hf])]
   have e2 : z4t r k g = 7 := by unfold z4t; rw [if_neg (fun e => e h0), hfb, if_neg (by simp [hf])]
   rw [e1, e2]
   simp only [List.map_cons, List.map_nil, tupV] at hB
   simp only [T1.i14, RulesT.d, GoalT.d, hC, h0, hL, z2a hk, hB, hx0, hx1, w_len, w_0, w_1, w_2, ↓LA, LB, simprocAttr]
   exact rql2 (hns _) z3y rfl
 ·have hfb : fitB r n g = false := by unfold fitB; simp [h0]
  have e1 : z2b r n g = [] := by unfold z2b; rw [hfb]; rfl
  have e2 : z4t r n g = z1i r n g := by unfold z4t; rw [if_pos h0]
  rw [e1, e2]
  simp only [RulesT.d, GoalT.d] at hC
  simp only [T1.i14, RulesT.d, GoalT.d, hC, h0, w_len, w_0, w_1, w_2, ↓LA, LB, simprocAttr]
  exact rql2 (hns _) z3y rfl
theorem zms (st : St) : z05 G (.fn 12 [] []) [] st = some (.d (.int .i64 7), st) := by
 refine z0f (ds := []) (rs := [.int .i64 7]) T1.g12 rfl rfl (fun e w_len harg => ?_) st
 have w_len : e.length = 1 := w_len
 clear harg
 simp only [T1.i12, w_len, ↓LA, LB, simprocAttr]
 exact rq1 (by rfl)
end Go.Lift.K
namespace Go.Lift.K
open Go Go.Lift Classical
set_option maxRecDepth 100000
def FzD (s : List (Nat × Obj)) (lo k : Nat) (v : V) (d : D) : Prop := v = .d d ∨ ((v = .nilS ∨ v = .emp) ∧ d = .sl []) ∨
 ∃ k' es ag ds, v = .arr k' es ag 0 ds.length ∧ d = .sl ds ∧ lo ≤ k' ∧ k' ≠ k ∧ 0 < es ∧ (∀ x ∈ ds, Elt es ag x) ∧ (sget s k' = some (.cells ((ds.flatMap cellsD).map V.d)) ∨ sget s k' = some (.fz (ds.flatMap cellsD)))
def FzS (lo k : Nat) (s s' : List (Nat × Obj)) : Prop := ∀ q, sget s' q = sget s q ∨ (lo ≤ q ∧ q ≠ k ∧ ∃ ds : List D, sget s q = some (.cells (ds.map V.d)) ∧ sget s' q = some (.fz ds))
theorem FzS.refl {lo k : Nat} {s : List (Nat × Obj)} : FzS lo k s s := fun _ => .inl rfl
theorem zpc : ∀ {a b : List D}, a.map V.d = b.map V.d → a = b := fun h => (List.map_inj_right (fun x y e => by injection e)).1 h
theorem FzD.step {s s' : List (Nat × Obj)} {lo k : Nat} {v : V} {d : D} (h : FzD s lo k v d) (hs : FzS lo k s s') : FzD s' lo k v d := by
 refine h.imp id fun h => h.imp id ?_
 rintro ⟨k', es, ag, ds, e1, e2, e3, e4, e5, e6, e7⟩
 refine ⟨k', es, ag, ds, e1, e2, e3, e4, e5, e6, ?_⟩
 rcases hs k' with e | ⟨_, _, ds', f1, f2⟩
 ·rw [e]; exact e7
 ·rcases e7 with e7 | e7
  ·rw [f1] at e7
   injection e7 with e7
   injection e7 with e7
   rw [zpc e7] at f2
   exact .inr f2
  ·rw [f1] at e7
   injection e7 with e7
   cases e7
theorem FzD.frame {s s' : List (Nat × Obj)} {lo k hi : Nat} {v : V} {d : D} (h : FzD s lo k v d) (hs : ∀ q, sget s q ≠ none → q ≠ k → sget s' q = sget s q) : FzD s' lo k v d := by
 refine h.imp id fun h => h.imp id ?_
 rintro ⟨k', es, ag, ds, e1, e2, e3, e4, e5, e6, e7⟩
 refine ⟨k', es, ag, ds, e1, e2, e3, e4, e5, e6, ?_⟩
 rw [hs k' (by rcases e7 with e | e <;> rw [e] <;> simp) e4]
 exact e7
theorem zww : ∀ {ds : List D}, CVs (fun v d => v = V.d d) (ds.map V.d) ds
 | [] => trivial
 | _ :: _ => ⟨rfl, zww⟩
theorem zo4 {s : List (Nat × Obj)} {k : Nat} {l : List D} (h : sget s k = some (.cells (l.map V.d)) ∨ sget s k = some (.fz l)) : scells s k = some (l.map V.d) := by
 rcases h with h | h <;> simp [scells, h]
theorem zj2 {s : List (Nat × Obj)} {k es m : Nat} {ag : Bool} {ds : List D} (h0 : 0 < es) (he : ∀ x ∈ ds, Elt es ag x) (h : scells s k = some ((ds.flatMap cellsD).map V.d)) : snap s 0 (m + 2) (.arr k es ag 0 ds.length) = some (.sl ds) := by
 obtain ⟨h1, h2⟩ := z1t he
 have hm : ((ds.flatMap cellsD).map V.d).mapM (snap s 0 (m + 1)) = some (ds.flatMap cellsD) := z9z (R := fun v d => v = V.d d) (fun v d hv => by subst hv; rfl) zww
 have ht : (((ds.flatMap cellsD).map V.d).drop 0).take (ds.length * es) = (ds.flatMap cellsD).map V.d := by
  rw [List.drop_zero, List.take_of_length_le (by rw [List.length_map]; omega)]
 have hc := z4a (ag := ag) h0 he
 simp only [snap, h, Nat.not_lt_zero, if_false]
 rw [if_pos ⟨h0, by rw [List.length_map]; omega⟩, ht, hm]
 simp only [h1, if_true, hc, Option.map_some]
theorem FzD.snap {s : List (Nat × Obj)} {lo k m : Nat} {v : V} {d : D} (h : FzD s lo k v d) : Go.Lift.snap s 0 (m + 2) v = some d := by
 rcases h with rfl | ⟨rfl | rfl, rfl⟩ | ⟨k', es, ag, ds, rfl, rfl, _, _, e5, e6, e7⟩
 ·rfl
 ·rfl
 ·rfl
 ·exact zj2 e5 e6 (zo4 e7)
theorem FzD.frz {s : List (Nat × Obj)} {lo k m nx lw : Nat} {v : V} {d : D} (h : FzD s lo k v d) : ∃ y s' lw', Go.Lift.frz (m + 2) { s := s, next := nx, low := lw } v = some (y, { s := s', next := nx, low := lw' }) ∧ (y = .d d ∨ d = .sl []) ∧ FzS lo k s s' := by
 rcases h with rfl | ⟨rfl | rfl, rfl⟩ | ⟨k', es, ag, ds, rfl, rfl, e3, e4, e5, e6, e7⟩
 ·exact ⟨_, s, lw, rfl, .inl rfl, FzS.refl⟩
 ·exact ⟨_, s, lw, rfl, .inr rfl, FzS.refl⟩
 ·exact ⟨_, s, lw, rfl, .inr rfl, FzS.refl⟩
 ·rcases e7 with e7 | e7
  ·refine ⟨_, _, _, zgi e5 e6 e7, .inl rfl, fun q => ?_⟩
   by_cases e : q = k'
   ·subst e; exact .inr ⟨e3, e4, _, e7, z0v e7⟩
   ·exact .inl (z0q e)
  ·refine ⟨.d (.sl ds), s, lw, ?_, .inl rfl, FzS.refl⟩
   obtain ⟨h1, h2⟩ := z1t e6
   have hc := z4a (ag := ag) e5 e6
   have ht : ((ds.flatMap cellsD).drop 0).take (ds.length * es) = ds.flatMap cellsD := by
    rw [List.drop_zero, List.take_of_length_le (by omega)]
   simp only [Go.Lift.frz, St.get, e7]
   rw [if_pos ⟨e5, by omega, h1⟩, ht, hc]
theorem y2m {s : List (Nat × Obj)} {S : Nat → Prop} {lo k : Nat} {v : V} {d : D} (hS : ∀ j, S j → lo ≤ j ∧ j ≠ k) (h : CQ s false S 1 v d) : FzD s lo k v d := by
 rcases h with ⟨rfl, _⟩ | h | ⟨k', es, ag, cs, ds, rfl, rfl, h1, h2, h3, h4, h5⟩
 ·exact .inl rfl
 ·exact .inr (.inl h)
 ·have e := cvs0 h5
  subst e
  exact .inr (.inr ⟨k', es, ag, ds, rfl, rfl, (hS _ h1).1, (hS _ h1).2, h3, h4, .inl h2⟩)
theorem zu4 {n : List Nat} {l : List TreeT} (hl : l.length ≤ 1000000) (hk : Og ⟨n, l⟩) {s : List (Nat × Obj)} {lo k nx lw : Nat} {xa : V} (h : FzD s lo k xa (.sl (l.map TreeT.d))) :
  PostV (z05 G (.fn 11 [] []) [mkAgg [.d (.str n), xa]] { s := s, next := nx, low := lw }) (fun v st => v = .d (z18 ⟨n, l⟩).d ∧ st.next = nx ∧ FzS lo k s st.s) := by
 have hL := z6j (g := ⟨n, l⟩) hl hk { s := [], next := 0, low := 0 }
 have hs : snap s 0 z07 (mkAgg [.d (.str n), xa]) = some (GoalT.d ⟨n, l⟩) := by
  rcases h with rfl | h
  ·rfl
  ·have e := FzD.snap (m := 9) (.inr h : FzD s lo k xa _)
   have hv : mkAgg [.d (.str n), xa] = .agg [.d (.str n), xa] := by
    rcases h with ⟨rfl | rfl, _⟩ | ⟨k', es, ag, ds, rfl, _⟩ <;> rfl
   rw [hv]
   show snap s 0 (11 + 1) (.agg [.d (.str n), xa]) = _
   have hm : [V.d (.str n), xa].mapM (snap s 0 11) = some [.str n, .sl (l.map TreeT.d)] := by
    have e1 : snap s 0 11 (.d (.str n)) = some (.str n) := rfl
    simp [e1, e]
   simp only [snap, hm]
   rfl
 cases l with
 | nil => exact ⟨_, _, z3b (args := [mkAgg [.d (.str n), xa]]) (ds := [GoalT.d ⟨n, []⟩]) (rs := [(z18 ⟨n, []⟩).d]) T1.g11 rfl rfl (by simp [z0o, hs]) rfl hL, rfl, rfl, FzS.refl⟩
 | cons t l =>
  rcases h with rfl | h
  ·exact ⟨_, _, z8o (rs := [(z18 ⟨n, t :: l⟩).d]) T1.g11 rfl rfl hs (y := mkAgg [.d (.str n), .d (.sl ((t :: l).map TreeT.d))]) (st' := { s := s, next := nx, low := lw }) rfl rfl rfl hL, rfl, rfl, FzS.refl⟩
  ·obtain ⟨y, s', lw', hz, hy, hS⟩ := FzD.frz (m := 9) (nx := nx) (lw := lw) (.inr h : FzD s lo k xa _)
   have hv : mkAgg [.d (.str n), xa] = .agg [.d (.str n), xa] := by
    rcases h with ⟨rfl | rfl, _⟩ | ⟨k', es, ag, ds, rfl, _⟩ <;> rfl
   refine ⟨_, _, z8o (rs := [(z18 ⟨n, t :: l⟩).d]) T1.g11 rfl rfl hs (y := mkAgg [.d (.str n), y]) (st' := { s := s', next := nx, low := lw' }) (by rw [hv]; exact zk6 hz) ?_ rfl hL, rfl, rfl, hS⟩
   rcases hy with rfl | hy
   ·rfl
   ·simp at hy
end Go.Lift.K
namespace Go.Lift.K
open Go Go.Lift Classical
set_option maxRecDepth 100000
theorem zk3 {s : List (Nat × Obj)} {k : Nat} {g : GoalT} (h : sget s k = some (.cells [.d (.str g.rel), .d (.sl (g.args.map TreeT.d))])) : snap s 0 z07 (.arr k 2 true 0 1) = some (.sl [g.d]) :=
 CQ.snap (s := s) (lv := false) (S := fun _ => True) (b := 0) (fun _ _ => Nat.zero_le _) (n := 1) (m := 12) (by decide) (zdd (k := k) [g.d] trivial h (by omega) (fun x hx => by cases List.mem_singleton.1 hx; exact z6m) rfl ⟨CQ.str, CQ.data, trivial⟩)
theorem zo5 {g : GoalT} (hg : g.ok) {s : List (Nat × Obj)} {nx lw k k' : Nat} (h : sget s k = some (.cells [.d (.str g.rel), .d (.sl (g.args.map TreeT.d))])) (h' : sget s k' = some (.cells [.d (.str g.rel), .d (.sl (g.args.map TreeT.d))])) :
  z05 G (.fn 15 [] []) [.arr k 2 true 0 1, .arr k' 2 true 0 1] { s := s, next := nx, low := lw } = some (.d (.bool true), { s := s, next := nx, low := lw }) := by
 refine z3b (ds := [.sl [g.d], .sl [g.d]]) (rs := [.bool true]) T1.g15 rfl rfl ?_ rfl ?_
 ·simp [z0o, zk3 h, zk3 h']
 ·have := z96 (x := [g]) (y := [g]) (by simp [LOk]) (fun x hx => by cases List.mem_singleton.1 hx; exact hg) { s := [], next := 0, low := 0 }
  rw [D.beqL_refl] at this
  exact this
theorem zc9 {r : RulesT} (hr : r.ok) (hbr : z22 r = false) {n : Int} {g : GoalT} (hg : g.ok) : LOk (z2b r n g) ∧ (∀ x ∈ z2b r n g, x.ok ∧ x.args.length ≤ 1000000 ∧ Lg x) := by
 unfold z2b
 by_cases hf : fitB r n g = true
 ·rw [if_pos hf]
  unfold fitB at hf
  rw [Bool.and_eq_true, decide_eq_true_eq, decide_eq_true_eq] at hf
  obtain ⟨h0, hf⟩ := hf
  obtain ⟨h1, h2, h3⟩ := z66 h0
  obtain ⟨k, rfl⟩ : ∃ k : Nat, n = (k : Nat) := ⟨n.toNat, by omega⟩
  have hk : k < r.clauses.length := by omega
  have hge : r.clauses.getD ((k : Nat) : Int).toNat ⟨[], [], []⟩ = r.clauses[k] := by simp [hk]
  rw [hge] at hf ⊢
  have hcm : r.clauses[k] ∈ r.clauses := List.getElem_mem hk
  have hc := zc2 h1 hcm
  have hcok := hr.2.2 _ hcm
  obtain ⟨b1, b2⟩ := z8j hbr
  obtain ⟨c1, c2, c3⟩ := b2 _ hcm
  have hLg := z7t (z8s hg h1)
  have hlen := hc.len hf.1
  have hl : (z18 g).args.length = g.args.length := by show (g.args.map z1o).length = _; rw [List.length_map]
  have hA := zeh hLg (n := r.clauses[k].head.length) (fun q hq => by rw [hl]; omega) hf.2.1
  unfold z87
  refine ⟨by unfold LOk; rw [List.length_map]; omega, fun x hx => ?_⟩
  obtain ⟨p, hp, rfl⟩ := List.mem_map.1 hx
  have hpv := c3 p hp
  have hpo := hcok.2.2.2 p hp
  have hgt : ∀ t ∈ (z88 (bndN r.clauses[k] (z18 g) r.clauses[k].head.length) p).args, Lst t := fun t ht => by
   obtain ⟨v, hv, rfl⟩ := List.mem_map.1 ht
   obtain ⟨y, hy, hyv⟩ := hc.th (z18 g) p hp v hv
   rw [← hyv, z7r hf.2.2 hy]
   exact hA y hy
  refine ⟨⟨hpo.1, by unfold LOk; show (p.vars.map _).length ≤ _; rw [List.length_map]; omega, fun t ht => (hgt t ht).tok⟩, by show (p.vars.map _).length ≤ _; rw [List.length_map]; omega, hgt⟩
 ·rw [if_neg hf]
  exact ⟨by simp [LOk], fun x hx => by simp at hx⟩
set_option maxHeartbeats 2000000 in
theorem zgm {e : List V} {s : List (Nat × Obj)} {nx lw : Nat} {r : RulesT} {n : Int} {g o : GoalT} (hr : r.ok) (hbr : z22 r = false) (hrn : ∀ a ∈ r.rels, a.ok ∧ a.name.length ≤ 4611686018427387904) (hg : g.ok) (ho : o.ok) (hbg : z2y g = false) (hbo : z2y o = false) (hAw : ∀ st, z05 G (.fn 6 [] []) [] st = some (.d (.bool true), st))
  {wv : V} (hwv : snap s 0 z07 wv = some (.sl ((z2b r n g).map GoalT.d)))
  (w_len : e.length = 150) (w_1 : e.getD 1 .undef = .d (.int .i64 n)) (w_4 : e.getD 4 .undef = .ptr 0 0) (w_6 : e.getD 6 .undef = .ptr 1 0) (w_7 : e.getD 7 .undef = .ptr 2 0) (w_9 : e.getD 9 .undef = .ptr 20 0) (w_10 : e.getD 10 .undef = .ptr 21 0) (w_11 : e.getD 11 .undef = .ptr 22 0)
  (w_12 : e.getD 12 .undef = .d (.int .i64 (z1i r n g))) (w_13 : e.getD 13 .undef = .d (.int .i64 (z4t r n g))) (w_14 : e.getD 14 .undef = wv) (w_15 : e.getD 15 .undef = .d (.bool (fitB r n g)))
  (w_c0 : sget s 0 = some (.cells [.d (.sl (r.rels.map RelT.d)), .d (.sl (r.clauses.map ClauseT.d))])) (w_c1 : sget s 1 = some (.cells [.d (.str g.rel), .d (.sl (g.args.map TreeT.d))])) (w_c2 : sget s 2 = some (.cells [.d (.str o.rel), .d (.sl (o.args.map TreeT.d))]))
  (w_d0 : sget s 20 = some (.cells [.d (.sl (r.rels.map RelT.d)), .d (.sl (r.clauses.map ClauseT.d))])) (w_d1 : sget s 21 = some (.cells [.d (.str g.rel), .d (.sl (g.args.map TreeT.d))])) (w_d2 : sget s 22 = some (.cells [.d (.str o.rel), .d (.sl (o.args.map TreeT.d))])) (hnx : 26 ≤ nx) :
  PC (z0m (z05 G) z0r none T1.q3_86 e { s := s, next := nx, low := lw }) (RP [.t 8] [.bool true]) .mk := by
 have hF := fun st => ztj hr hbr hg hbg (n := n) st
 have hB := fun st => zlx hr hbr hg hbg (n := n) st
 have hS1 := fun st => zj8 hg ho st
 have hS2 := fun st => zfr hg ho (by have := z3r hbg; omega) (by have := z3r hbo; omega) st
 have hS3 := fun st => zj8 hg hg st
 have hS4 := fun st => zfr hg hg (by have := z3r hbg; omega) (by have := z3r hbg; omega) st
 have hS5 : ∀ st, z05 G (.fn 18 [] []) [.d r.d, .d r.d] st = some (.d (.bool true), st) := fun st => by
  have := zxd hr hrn hrn st
  rwa [D.beq_refl] at this
 obtain ⟨hW1, hW2⟩ := zc9 hr hbr (n := n) hg
 have hW : ∀ nx lw, z05 G (.fn 15 [] []) [.d (.sl ((z2b r n g).map GoalT.d)), wv] { s := s, next := nx, low := lw } = some (.d (.bool true), { s := s, next := nx, low := lw }) := fun nx lw => by
  refine z3b (ds := [.sl ((z2b r n g).map GoalT.d), .sl ((z2b r n g).map GoalT.d)]) (rs := [.bool true]) T1.g15 rfl rfl ?_ rfl ?_
  ·simp [z0o, hwv, z3y]
  ·have := z96 (x := z2b r n g) (y := z2b r n g) hW1 (fun x hx => (hW2 x hx).1) { s := [], next := 0, low := 0 }
   rw [D.beqL_refl] at this
   exact this
 have hx0 : ∀ a b : V, [a, b][0]? = some a := fun _ _ => rfl
 have hx1 : ∀ a b : V, [a, b][1]? = some b := fun _ _ => rfl
 have hn : ∀ j, j < 26 → ∀ i, (nx + i = j) = False := fun j hj i => by simp; omega
 have hn0 := hn 0 (by omega)
 have hn1 := hn 1 (by omega)
 have hn2 := hn 2 (by omega)
 have hn4 := hn 20 (by omega)
 have hn5 := hn 21 (by omega)
 have hn6 := hn 22 (by omega)
 have hG := fun s nx lw k k' h h' => zo5 hg (s := s) (nx := nx) (lw := lw) (k := k) (k' := k') h h'
 have hq1 : ∀ x : Int, decide (x = x) = true := fun x => by simp
 have hq2 : ∀ x : Bool, (x == x) = true := fun x => by simp
 simp only [RulesT.d, GoalT.d] at hF hB hS1 hS2 hS3 hS4 hS5
 simp only [hF, hB, hS1, hS2, hS3, hS4, hS5, hW, hAw, hG, hx0, hx1, hn1, hn5, hq2, w_len, w_1, w_4, w_6, w_7, w_9, w_10, w_11, w_12, w_13, w_14, w_15, w_c0, w_c1, w_c2, w_d0, w_d1, w_d2, ↓LA, LB, simprocAttr]
 exact rq1 rfl
end Go.Lift.K
namespace Go.Lift.K
open Go Go.Lift Classical
set_option maxRecDepth 100000
def gcs (xs : List (GoalT × V)) : List V := xs.flatMap fun y => [.d (.str y.1.rel), y.2]
theorem z6l {y : GoalT × V} {xs : List (GoalT × V)} : gcs (y :: xs) = .d (.str y.1.rel) :: y.2 :: gcs xs := rfl
theorem zwh : ∀ {xs : List (GoalT × V)} {i : Nat} (h : i < xs.length), (i * 2 + 2 ≤ (gcs xs).length) = True ∧ ((gcs xs).drop (i * 2)).take 2 = [.d (.str xs[i].1.rel), xs[i].2]
 | y :: xs, 0, _ => ⟨eq_true (by rw [z6l]; simp), rfl⟩
 | y :: xs, i + 1, h => by
  have h' : i < xs.length := by simp at h; omega
  obtain ⟨h1, h2⟩ := zwh h'
  have h1 := of_eq_true h1
  have e : (i + 1) * 2 = i * 2 + 1 + 1 := by omega
  rw [z6l, e]
  refine ⟨eq_true (by simp only [List.length_cons]; omega), ?_⟩
  rw [List.drop_succ_cons, List.drop_succ_cons, h2]
  rfl
theorem zqn : ∀ {xs : List (GoalT × V)} {i : Nat} (h : i < xs.length) {w : V}, (gcs xs).take (i * 2) ++ [.d (.str xs[i].1.rel), w] ++ (gcs xs).drop (i * 2 + 2) = gcs (xs.set i (xs[i].1, w))
 | y :: xs, 0, _, w => rfl
 | y :: xs, i + 1, h, w => by
  have h' : i < xs.length := by simp at h; omega
  have e : (i + 1) * 2 = i * 2 + 1 + 1 := by omega
  have e2 : (i + 1) * 2 + 2 = (i * 2 + 2) + 1 + 1 := by omega
  have ih := zqn h' (w := w)
  rw [z6l, e2, e, List.take_succ_cons, List.take_succ_cons, List.drop_succ_cons, List.drop_succ_cons, List.set_cons_succ, z6l]
  simp only [List.getElem_cons_succ]
  rw [← ih]
  rfl
theorem zqo {s : List (Nat × Obj)} {S : Nat → Prop} {lo k : Nat} (hS : ∀ j, S j → lo ≤ j ∧ j ≠ k) : ∀ {cs : List V} {W : List GoalT}, CVs (CQ s false S 1) cs ((W.map GoalT.d).flatMap cellsD) → ∃ xs : List (GoalT × V), xs.map Prod.fst = W ∧ cs = gcs xs ∧ ∀ y ∈ xs, FzD s lo k y.2 (.sl (y.1.args.map TreeT.d))
 | [], [], _ => ⟨[], rfl, rfl, fun y hy => by simp at hy⟩
 | [], g :: W, h => h.elim
 | _ :: _, [], h => h.elim
 | [_], g :: W, h => h.2.elim
 | a :: b :: cs, g :: W, h => by
  obtain ⟨h1, h2, h3⟩ := h
  obtain ⟨xs, e1, e2, e3⟩ := zqo hS (W := W) h3
  have ha : a = .d (.str g.rel) := by
   rcases h1 with ⟨rfl, _⟩ | ⟨_, e⟩ | ⟨_, _, _, _, _, _, e, _⟩
   ·rfl
   ·cases e
   ·cases e
  refine ⟨(g, b) :: xs, by rw [List.map_cons, e1], by rw [z6l, ha, e2], fun y hy => ?_⟩
  rcases List.mem_cons.1 hy with rfl | hy
  ·exact y2m hS h2
  ·exact e3 y hy
theorem zue {xs : List (GoalT × V)} (h : ∀ y ∈ xs, y.2 = .d (.sl (y.1.args.map TreeT.d))) : gcs xs = (((xs.map Prod.fst).map GoalT.d).flatMap cellsD).map V.d := by
 induction xs with
 | nil => rfl
 | cons y xs ih =>
  rw [z6l, ih fun z hz => h z (List.mem_cons_of_mem _ hz), h y (List.mem_cons_self ..)]
  rfl
theorem zaj {g : GoalT} (h : z2y g = false) : g.args.length ≤ 1000000 ∧ ∀ x ∈ g.args, zfk x := by
 simp only [z2y, Bool.or_eq_false_iff, decide_eq_false_iff_not] at h
 obtain ⟨⟨⟨h1, h2⟩, h3⟩, h4⟩ := h
 refine ⟨by omega, fun t ht => ?_⟩
 have h5 : z7v t = false := by simpa using List.any_eq_false.1 h4 t ht
 simp only [z7v, Bool.or_eq_false_iff, decide_eq_false_iff_not] at h5
 refine ⟨by omega, fun x hx => ?_⟩
 have h6 : z7w x = false := by simpa using List.any_eq_false.1 h5.2 x hx
 simp only [z7w, Bool.or_eq_false_iff, decide_eq_false_iff_not] at h6
 unfold zb5
 omega
theorem zak {l : List PatT} {n : Nat} (h : l.length ≤ n) (hn : n ≤ 1000000) (hb : l.any bigP = false) : zb1 l := by
 refine ⟨by omega, fun x hx => ?_⟩
 have h1 := List.any_eq_false.1 hb x hx
 simp [bigP, zi7] at h1
 unfold zjd
 omega
theorem zfo {r : RulesT} (h : z22 r = false) : zcs r ∧ (∀ x ∈ r.rels, x.name.length ≤ 40) := by
 simp only [z22, Bool.or_eq_false_iff, decide_eq_false_iff_not] at h
 obtain ⟨⟨⟨h1, h2⟩, h3⟩, h4⟩ := h
 refine ⟨⟨by omega, by omega, fun c hc => ?_⟩, fun x hx => ?_⟩
 ·have h5 : bigC c = false := by simpa using List.any_eq_false.1 h4 c hc
  simp only [bigC, Bool.or_eq_false_iff, decide_eq_false_iff_not] at h5
  obtain ⟨⟨⟨⟨_, h6⟩, h7⟩, h8⟩, h9⟩ := h5
  exact ⟨zak (n := 6) (by omega) (by omega) h8, zak (n := 8) (by omega) (by omega) h9⟩
 ·have h5 : bigR x = false := by simpa using List.any_eq_false.1 h3 x hx
  simp [bigR, z4i] at h5
  omega
def Want (s : List (Nat × Obj)) (lo : Nat) (a : V) (W : List GoalT) (xs : List (GoalT × V)) : Prop := xs.map Prod.fst = W ∧ ((a = .nilS ∧ W = []) ∨ ∃ k, a = .arr k 2 true 0 W.length ∧ lo ≤ k ∧ sget s k = some (.cells (gcs xs)) ∧ ∀ y ∈ xs, FzD s lo k y.2 (.sl (y.1.args.map TreeT.d)))
theorem ziw {e : List V} {s : List (Nat × Obj)} {nx lw : Nat} {W : List GoalT} (hW : ∀ g ∈ W, g.args.length ≤ 1000000 ∧ Lg g) (hWl : W.length ≤ 1000) {a : V} {lo : Nat} {xs0 : List (GoalT × V)} (ha : Want s lo a W xs0)
  (w_len : e.length = 150) (w_14 : e.getD 14 .undef = a) {Q : Ex → List V → St → Prop} {q : Dm Q}
  (hQ : ∀ e' s' nx' lw', e'.length = 150 → (∀ i, i < 16 → i = 1 ∨ (4 ≤ i ∧ i ≠ 5 ∧ i ≠ 8) → e'.getD i .undef = e.getD i .undef) → (∀ q, q < lo → sget s' q = sget s q) → nx ≤ nx' → snap s' 0 z07 a = some (.sl (W.map GoalT.d)) → Q .nrm e' { s := s', next := nx', low := lw' }) :
  PC (z0m (z05 G) z0r none T1.q3_71 e { s := s, next := nx, low := lw }) Q q := by
 have hlen : opLen false a = some W.length := by
  rcases ha.2 with ⟨rfl, rfl⟩ | ⟨k, rfl, _⟩ <;> rfl
 have h14 := w_14
 simp only [hlen, w_len, w_14, ↓LA, LB, simprocAttr]
 refine z09 (fun e0 s0 m env st => ∃ (i nxi lwi : Nat) (si : List (Nat × Obj)) (xs : List (GoalT × V)), m = W.length - i ∧ (i ≤ W.length) ∧ (Want si lo a W xs) ∧ ((∀ j (h : j < xs.length), j < i → xs[j].2 = .d (.sl (xs[j].1.args.map TreeT.d)))) ∧ (∀ q, q < lo → sget si q = sget s q) ∧ nx ≤ nxi ∧ 0 ≤ lwi ∧ env.length = 150 ∧ env.getD 73 .undef = .d (.int .i64 i) ∧ env.getD 1 .undef = e.getD 1 .undef ∧ env.getD 4 .undef = e.getD 4 .undef ∧ env.getD 6 .undef = e.getD 6 .undef ∧ env.getD 7 .undef = e.getD 7 .undef ∧ env.getD 9 .undef = e.getD 9 .undef ∧ env.getD 10 .undef = e.getD 10 .undef ∧ env.getD 11 .undef = e.getD 11 .undef ∧ env.getD 12 .undef = e.getD 12 .undef ∧ env.getD 13 .undef = e.getD 13 .undef ∧ env.getD 14 .undef = a ∧ env.getD 15 .undef = e.getD 15 .undef ∧ env.getD 72 .undef = .d (.int .i64 W.length) ∧ st = { s := si, next := nxi, low := lwi }) ?_ (W.length) (by refine ⟨0, _, _, _, xs0, rfl, by omega, ha, (fun j h h' => by omega), (fun q hq => rfl), (by omega), Nat.zero_le _, ?_, ?_, ?_, ?_, ?_, ?_, ?_, ?_, ?_, ?_, ?_, ?_, ?_, ?_, rfl⟩ <;> simp only [w_len, w_14, LB, simprocAttr])
 rintro m env st ⟨i, nxi, lwi, si, xs, hm, b_0, b_1, b_2, b_3, w_bb, w_blo, w_len, w_73, w_1, w_4, w_6, w_7, w_9, w_10, w_11, w_12, w_13, w_14, w_15, w_72, rfl⟩
 obtain ⟨b1, b2⟩ := b_1
 have hxl : xs.length = W.length := by rw [← b1, List.length_map]
 by_cases hi : i < W.length
 ·have hix : i < xs.length := by omega
  rcases b2 with ⟨_, hw⟩ | ⟨k, rfl, hk, w_k, hz⟩
  ·rw [hw] at hi; simp at hi
  ·have hgm : xs[i].1 ∈ W := by rw [← b1]; exact List.mem_map.2 ⟨xs[i], List.getElem_mem hix, rfl⟩
   obtain ⟨g1, g2⟩ := hW _ hgm
   obtain ⟨t1, t2⟩ := zwh hix
   simp only [hi, z78 hi, t1, t2, w_len, w_73, w_14, w_72, w_k, ↓LA, LB, simprocAttr]
   refine z4z (zu4 (n := xs[i].1.rel) (l := xs[i].1.args) g1 g2.og (hz _ (List.getElem_mem hix))) fun rv st hR => ?_
   obtain ⟨s1, n1, l1⟩ := st
   obtain ⟨rfl, hn1, hf1⟩ := hR
   have hn1 : n1 = _ := hn1
   subst hn1
   have hfx : z18 ⟨xs[i].1.rel, xs[i].1.args⟩ = ⟨xs[i].1.rel, xs[i].1.args⟩ := Lg.fix g2
   rw [hfx]
   have hf1 : FzS lo k si s1 := hf1
   have w_k1 : sget s1 k = some (.cells (gcs xs)) := by
    rcases hf1 k with e | ⟨_, e, _⟩
    ·rw [e]; exact w_k
    ·exact absurd rfl e
   have hst := zqn hix (w := .d (.sl (xs[i].1.args.map TreeT.d)))
   simp only [GoalT.d, z78 hi, t1, hst, z02 hi (by omega), w_len, w_73, w_k1, ↓LA, LB, simprocAttr]
   obtain ⟨ys, hys⟩ : ∃ ys, ys = xs.set i (xs[i].1, V.d (D.sl (xs[i].1.args.map TreeT.d))) := ⟨_, rfl⟩
   have hyl : ys.length = xs.length := by rw [hys, List.length_set]
   have hyi : ∀ j (h : j < ys.length), ys[j] = if i = j then (xs[i].1, V.d (D.sl (xs[i].1.args.map TreeT.d))) else xs[j]'(by omega) := fun j h => by simp only [hys, List.getElem_set]
   rw [← hys]
   have hwant : Want (sset s1 k (.cells (gcs ys))) lo (.arr k 2 true 0 W.length) W ys := by
    refine ⟨?_, .inr ⟨k, rfl, hk, z0v w_k1, fun y hy => ?_⟩⟩
    ·rw [← b1]
     refine List.ext_getElem (by simp [hyl]) fun j h1 h2 => ?_
     rw [List.getElem_map, List.getElem_map, hyi]
     by_cases e : i = j
     ·subst e; simp
     ·simp [e]
    ·obtain ⟨j, hj, rfl⟩ := List.mem_iff_getElem.1 hy
     rw [hyi]
     by_cases e : i = j
     ·rw [if_pos e]; exact .inl rfl
     ·rw [if_neg e]
      exact ((hz _ (List.getElem_mem _)).step hf1).frame (hi := 0) fun q _ hq => z04 (fun h => hq h.symm)
   have hdone : ∀ j (h : j < ys.length), j < i + 1 → ys[j].2 = .d (.sl (ys[j].1.args.map TreeT.d)) := fun j h hj => by
    rw [hyi]
    by_cases e : i = j
    ·rw [if_pos e]
    ·rw [if_neg e]; exact b_2 j (by omega) (by omega)
   exact z08 (by refine ⟨_, by omega, i + 1, _, _, _, ys, rfl, by omega, hwant, hdone, (fun q hq => (z04 (by omega)).trans (((hf1 q).elim id (fun h => absurd h.1 (by omega))).trans (b_3 q hq))), (by omega), Nat.zero_le _, ?_, ?_, ?_, ?_, ?_, ?_, ?_, ?_, ?_, ?_, ?_, ?_, ?_, ?_, rfl⟩ <;> simp only [w_len, w_1, w_4, w_6, w_7, w_9, w_10, w_11, w_12, w_13, w_14, w_15, w_72, LB, simprocAttr])
 ·have hie : i = W.length := by omega
  simp only [hi, w_len, w_73, w_72, ↓LA, LB, simprocAttr]
  refine hQ _ _ _ _ (by simp only [w_len, LB, simprocAttr]) (fun j hj hc => ?_) b_3 (by omega) ?_
  ·have : j = 1 ∨ j = 4 ∨ j = 6 ∨ j = 7 ∨ j = 9 ∨ j = 10 ∨ j = 11 ∨ j = 12 ∨ j = 13 ∨ j = 14 ∨ j = 15 := by omega
   rcases this with rfl | rfl | rfl | rfl | rfl | rfl | rfl | rfl | rfl | rfl | rfl <;> simp only [h14, w_1, w_4, w_6, w_7, w_9, w_10, w_11, w_12, w_13, w_14, w_15, LB, simprocAttr]
  ·rcases b2 with ⟨rfl, rfl⟩ | ⟨k, rfl, hk, w_k, hz⟩
   ·simp [snap, z07]
   ·rw [zue fun y hy => by obtain ⟨j, hj, rfl⟩ := List.mem_iff_getElem.1 hy; exact b_2 j hj (by omega), b1] at w_k
    have := zj2 (s := si) (k := k) (m := 10) (ag := true) (ds := W.map GoalT.d) (by omega : 0 < 2) (z0h fun a => z6m) (by simp [scells, w_k])
    rw [List.length_map] at this
    exact this
set_option maxHeartbeats 2000000 in
theorem zdy {r : RulesT} {n : Int} {g o : GoalT} (hr : r.ok) (hn : IOk n) (hg : g.ok) (ho : o.ok) (hAw : ∀ st, z05 G (.fn 6 [] []) [] st = some (.d (.bool true), st)) (st : St) :
  z05 G (.fn 3 [] []) [.d r.d, .d (.int .i64 n), .d g.d, .d o.d] st = some (.d (.bool true), st) := by
 have hB1 := fun st => y1n hr st
 have hB2 := fun st => zdk hg st
 have hB3 := fun st => zdk ho st
 have hC := fun st => zqm hr hg st
 simp only [RulesT.d, GoalT.d] at hB1 hB2 hB3 hC
 obtain ⟨R, hR⟩ : ∃ R : IC, R = T1.q3_86 := ⟨_, rfl⟩
 obtain ⟨R2, hR2⟩ : ∃ R2 : IC, R2 = T1.q3_71 := ⟨_, rfl⟩
 refine z0f (ds := [r.d, .int .i64 n, g.d, o.d]) (rs := [.bool true]) T1.g3 rfl rfl (fun e w_len harg => ?_) st
 have w_len : e.length = 150 := w_len
 have w_0 := harg 0 (by simp)
 have w_1 := harg 1 (by simp)
 have w_2 := harg 2 (by simp)
 have w_3 := harg 3 (by simp)
 clear harg
 simp only [List.map_cons, List.map_nil, List.getD_cons_zero, List.getD_cons_succ] at w_0 w_1 w_2 w_3
 simp only [RulesT.d, GoalT.d] at w_0 w_1 w_2 w_3
 unfold T1.i3
 rw [← hR, ← hR2]
 cases h1 : z22 r with
 | true =>
  simp only [hB1, h1, hAw, w_len, w_0, w_2, w_3, ↓LA, LB, simprocAttr]
  exact rq1 rfl
 | false =>
 cases h2 : z2y g with
 | true =>
  simp only [hB1, hB2, h1, h2, hAw, w_len, w_0, w_2, w_3, ↓LA, LB, simprocAttr]
  exact rq1 rfl
 | false =>
 cases h3 : z2y o with
 | true =>
  simp only [hB1, hB2, hB3, h1, h2, h3, hAw, w_len, w_0, w_2, w_3, ↓LA, LB, simprocAttr]
  exact rq1 rfl
 | false =>
 obtain ⟨sr, sn⟩ := zfo h1
 have sg := zaj h2
 have so := zaj h3
 have hrn : ∀ a ∈ r.rels, a.ok ∧ a.name.length ≤ 4611686018427387904 := fun a ha => ⟨hr.1.2 a ha, by have := sn a ha; omega⟩
 have hO1 := fun st => y02 sr st
 have hO2 := fun st => zcy sg.1 sg.2 st
 have hO3 := fun st => zcy so.1 so.2 st
 simp only [RulesT.d, GoalT.d] at hO1 hO2 hO3
 have hzero : z1i r n g ≠ 0 → fitB r n g = false ∧ z4t r n g = z1i r n g ∧ z2b r n g = [] := fun h => by
  have hfb : fitB r n g = false := by unfold fitB; simp [h]
  exact ⟨hfb, if_pos h, by unfold z2b; rw [hfb]; rfl⟩
 by_cases h0 : z1m r g = 0
 ·by_cases hn0 : n < 0
  ·have hcs : z1i r n g = 1 := by unfold z1i; rw [if_pos h0, if_pos (.inl hn0)]
   obtain ⟨hfb, hbe, hbl⟩ := hzero (by rw [hcs]; decide)
   simp only [hB1, hB2, hB3, h1, h2, h3, hO1, hO2, hO3, hC, h0, hn0, w_len, w_0, w_1, w_2, w_3, ↓LA, LB, simprocAttr]
   rw [hR]
   refine zgm hr h1 hrn hg ho h2 h3 hAw (wv := .nilS) (by rw [hbl]; rfl) ?_ ?_ ?_ ?_ ?_ ?_ ?_ ?_ ?_ ?_ ?_ ?_ ?_ ?_ ?_ ?_ ?_ ?_ (by omega) <;> simp only [hfb, hbe, hcs, w_len, w_1, LB, simprocAttr]
  ·by_cases hn1 : (r.clauses.length : Int) ≤ n
   ·have hcs : z1i r n g = 1 := by unfold z1i; rw [if_pos h0, if_pos (.inr hn1)]
    obtain ⟨hfb, hbe, hbl⟩ := hzero (by rw [hcs]; decide)
    simp only [hB1, hB2, hB3, h1, h2, h3, hO1, hO2, hO3, hC, h0, hn0, hn1, List.length_map, w_len, w_0, w_1, w_2, w_3, ↓LA, LB, simprocAttr]
    rw [hR]
    refine zgm hr h1 hrn hg ho h2 h3 hAw (wv := .nilS) (by rw [hbl]; rfl) ?_ ?_ ?_ ?_ ?_ ?_ ?_ ?_ ?_ ?_ ?_ ?_ ?_ ?_ ?_ ?_ ?_ ?_ (by omega) <;> simp only [hfb, hbe, hcs, w_len, w_1, LB, simprocAttr]
   ·obtain ⟨k, hkn⟩ : ∃ k : Nat, n = (k : Nat) := ⟨n.toNat, by omega⟩
    have hk : k < r.clauses.length := by omega
    have hcs : z1i r n g = 0 := by unfold z1i; rw [if_pos h0, if_neg (by omega)]
    have hL := fun st => z6j sg.1 (z8s hg h0) st
    have hic := z2a hk
    rw [← hkn] at hic
    simp only [GoalT.d] at hL
    simp only [hB1, hB2, hB3, h1, h2, h3, hO1, hO2, hO3, hC, h0, hn0, hn1, hic, hL, List.length_map, w_len, w_0, w_1, w_2, w_3, ↓LA, LB, simprocAttr]
    have hc := zc2 h0 (List.getElem_mem hk)
    obtain ⟨b1, b2⟩ := z8j h1
    obtain ⟨c1, c2, c3⟩ := b2 _ (List.getElem_mem hk)
    have d1 := z3r h2
    have hll : (z18 g).args.length = g.args.length := by show (g.args.map z1o).length = _; rw [List.length_map]
    have hx0 : ∀ a b : V, [a, b][0]? = some a := fun _ _ => rfl
    have hx1 : ∀ a b : V, [a, b][1]? = some b := fun _ _ => rfl
    have hge : r.clauses.getD n.toNat ⟨[], [], []⟩ = r.clauses[k] := by rw [hkn]; simp [hk]
    refine z4z (zmz (c := r.clauses[k]) (g := z18 g) (z7t (z8s hg h0)) (by omega) (by omega) (fun e => by rw [hll]; exact hc.len e) (fun p hp => (hc.hd p hp).1) (by omega) (fun p hp => by have := c3 p hp; omega) (hc.th _)) fun rv st hR1 => ?_
    obtain ⟨s1, n1, l1⟩ := st
    obtain ⟨hn1', hf1, hR1⟩ := hR1
    have hn1' : 62 ≤ n1 := hn1'
    rcases hR1 with ⟨hfit, a, rfl, hga⟩ | ⟨hfit, rfl⟩
    ·have hfb : fitB r n g = true := by unfold fitB; rw [hcs, hge]; simp [hfit]
     have hbe : z4t r n g = 0 := by unfold z4t; rw [if_neg (fun e => e hcs), if_pos hfb]
     have hbl : z2b r n g = z87 r.clauses[k] (z18 g) := by unfold z2b; rw [if_pos hfb, hge]
     obtain ⟨xs0, hwant⟩ : ∃ xs0, Want s1 62 a (z2b r n g) xs0 := by
      rw [hbl]
      rcases hga with ⟨rfl, e⟩ | ⟨kk, cs, rfl, g1, g2, g3⟩
      ·exact ⟨[], by simpa using e.symm, .inl ⟨rfl, by simpa using e⟩⟩
      ·obtain ⟨xs, e1, e2, e3⟩ := zqo (lo := 62) (k := kk) (fun j hj => ⟨hj.1.1, hj.2⟩) g3
       exact ⟨xs, e1, .inr ⟨kk, by rw [List.length_map], g1.1, by rw [← e2]; exact g2, e3⟩⟩
     simp only [hx0, hx1, w_len, ↓LA, LB, simprocAttr]
     have HW := (zc9 hr h1 (n := n) hg).2
     rw [hR2]
     refine ziw (W := z2b r n g) (lo := 62) (fun y hy => ⟨(HW y hy).2.1, (HW y hy).2.2⟩) (by rw [hbl]; unfold z87; rw [List.length_map]; omega) (xs0 := xs0) hwant (by simp only [w_len, LB, simprocAttr]) (by simp only [w_len, LB, simprocAttr]) fun e' s' nx' lw' he0 he1 hs' hnx' hsn => ?_
     simp only [↓z8h]
     rw [hR]
     refine zgm hr h1 hrn hg ho h2 h3 hAw hsn he0 ?_ ?_ ?_ ?_ ?_ ?_ ?_ ?_ ?_ ?_ ?_ ?_ ?_ ?_ ?_ ?_ ?_ (by omega) <;> first | (rw [he1 _ (by omega) (by omega)]; simp only [hfb, hbe, hcs, w_len, w_1, LB, simprocAttr]) | (rw [hs' _ (by omega), hf1 _ (by omega)]; simp only [LB, simprocAttr])
    ·have hfb : fitB r n g = false := by unfold fitB; rw [hcs, hge]; simp [hfit]
     have hbe : z4t r n g = 7 := by unfold z4t; rw [if_neg (fun e => e hcs), if_neg (by rw [hfb]; simp)]
     have hbl : z2b r n g = [] := by unfold z2b; rw [hfb]; rfl
     have hCl := zms
     simp only [hx0, hx1, hCl, w_len, ↓LA, LB, simprocAttr]
     have HW := (zc9 hr h1 (n := n) hg).2
     rw [hR2]
     refine ziw (W := z2b r n g) (lo := 62) (fun y hy => ⟨(HW y hy).2.1, (HW y hy).2.2⟩) (by rw [hbl]; simp) (xs0 := []) ⟨by rw [hbl]; rfl, .inl ⟨rfl, hbl⟩⟩ (by simp only [w_len, LB, simprocAttr]) (by simp only [w_len, LB, simprocAttr]) fun e' s' nx' lw' he0 he1 hs' hnx' hsn => ?_
     simp only [↓z8h]
     rw [hR]
     refine zgm hr h1 hrn hg ho h2 h3 hAw hsn he0 ?_ ?_ ?_ ?_ ?_ ?_ ?_ ?_ ?_ ?_ ?_ ?_ ?_ ?_ ?_ ?_ ?_ (by omega) <;> first | (rw [he1 _ (by omega) (by omega)]; simp only [hfb, hbe, hcs, w_len, w_1, LB, simprocAttr]) | (rw [hs' _ (by omega), hf1 _ (by omega)]; simp only [LB, simprocAttr])
 ·have hcs : z1i r n g = z1m r g := by unfold z1i; rw [if_neg h0]
  obtain ⟨hfb, hbe, hbl⟩ := hzero (by rw [hcs]; exact h0)
  simp only [hB1, hB2, hB3, h1, h2, h3, hO1, hO2, hO3, hC, h0, w_len, w_0, w_2, w_3, ↓LA, LB, simprocAttr]
  rw [hR]
  refine zgm hr h1 hrn hg ho h2 h3 hAw (wv := .nilS) (by rw [hbl]; rfl) ?_ ?_ ?_ ?_ ?_ ?_ ?_ ?_ ?_ ?_ ?_ ?_ ?_ ?_ ?_ ?_ ?_ ?_ (by omega) <;> simp only [hfb, hbe, hcs, w_len, w_1, LB, simprocAttr]
end Go.Lift.K
