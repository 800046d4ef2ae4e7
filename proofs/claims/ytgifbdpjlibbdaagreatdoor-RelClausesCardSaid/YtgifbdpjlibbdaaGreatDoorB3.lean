/- Part B3 of the proof. -/
import Derived.Test.YtgifbdpjlibbdaaGreatDoorB2
import Derived.Test.YtgifbdpjlibbdaaGreatDoorA7
set_option linter.all false
namespace Go.Lift.K
open Go Go.Lift
set_option maxRecDepth 100000
theorem zcg {r : RulesT} (hr : r.ok) {c : ClauseT} (hc : c.ok) (st : St) : z05 G (.fn 91 [] []) [.d r.d, .d c.d] st = some (.d (.int .i64 (z17 r c)), st) := by
 have hrl := hr.1.1
 have hhl := hc.2.1.1
 have hbl := hc.2.2.1
 unfold LOk at hhl hbl
 have hR : ∀ (n : List Nat) (st : St), z05 G (.fn 45 [] []) [.d (.agg [.sl (r.rels.map RelT.d), .sl (r.clauses.map ClauseT.d)]), .d (.str n)] st = _ := fun n st => zas hrl st
 have hT := fun (v : List Nat) (st : St) => zsw (v := v) hc.2.1 st
 refine z0f (ds := [r.d, c.d]) (rs := [.int .i64 (z17 r c)]) T1.g91 rfl rfl (fun e w_len harg => ?_) st
 have w_len : e.length = 169 := w_len
 have w_0 := harg 0 (by simp)
 have w_1 := harg 1 (by simp)
 clear harg
 simp only [List.map_cons, List.map_nil, List.getD_cons_zero, List.getD_cons_succ] at w_0 w_1
 simp only [T1.i91, RulesT.d, ClauseT.d, hR, w_len, w_0, w_1, ↓ZA, ZB, simprocAttr]
 unfold z4y
 rcases z4j (p := isR c.rel) (l := r.rels) with ⟨e1, e2⟩ | ⟨n, hn, e1, e2⟩
 ·have hlt : (-1 : Int) < 0 := by omega
  simp only [e1, hlt, w_len, ↓ZA, ZB, simprocAttr]
  exact rq1 (by rw [z17, e2])
 ·have hlt : ¬ (n : Int) < 0 := by omega
  have hS : z17 r c = if (c.head.length : Int) ≠ r.rels[n].arity ∨ (4 : Int) < c.body.length ∨ c.head.all few = false then 2 else if c.head.all nmd = false then 4 else z0p (z2p r c.head) c.body := by rw [z17, e2]
  simp only [e1, hlt, z1p hn, w_len, ↓ZA, ZB, simprocAttr]
  by_cases h1 : (c.head.length : Int) = r.rels[n].arity
  ·simp only [h1, w_len, ↓ZA, ZB, simprocAttr]
   by_cases h2 : (4 : Int) < c.body.length
   ·simp only [h2, w_len, ↓ZA, ZB, simprocAttr]
    exact rq1 (by rw [hS, if_pos (.inr (.inl h2))])
   ·simp only [h2, ↓ZA, ZB, simprocAttr]
    refine z09 (fun e0 s0 m env st => ∃ (i nxi : Nat), m = c.head.length - i ∧ (i ≤ c.head.length) ∧ (∀ x ∈ c.head.take i, few x = true) ∧ env.length = 169 ∧ env.getD 6 .undef = .d (.int .i64 i) ∧ env.getD 2 .undef = .ptr 0 0 ∧ env.getD 3 .undef = .ptr 1 0 ∧ st = { s := s0.s, next := nxi, low := s0.low }) ?_ (c.head.length) (by refine ⟨0, _, rfl, by omega, by simp, ?_, ?_, ?_, ?_, rfl⟩ <;> simp only [w_len, ZB, simprocAttr])
    rintro m env st ⟨i, nxi, hm, a_0, a_1, w_len, w_6, w_2, w_3, rfl⟩
    by_cases hi : i < c.head.length
    ·by_cases h3 : (4 : Int) < c.head[i].vars.length
     ·have hf : few c.head[i] = false := by
       have : ¬ c.head[i].vars.length ≤ 4 := by omega
       simp [few, this]
      simp only [hi, z0t hi, h3, w_len, w_6, w_3, ↓ZA, ZB, simprocAttr]
      exact rq1 (by rw [hS, if_pos (.inr (.inr (z29 hi hf)))])
     ·have h3' : c.head[i].vars.length ≤ 4 := by omega
      by_cases h4 : c.head[i].name = []
      ·by_cases h5 : (c.head[i].vars.length : Int) = 1
       ·have h5' : c.head[i].vars.length = 1 := by omega
        simp only [hi, z0t hi, h4, h5, z02 hi (by omega), w_len, w_6, w_3, ↓ZA, ZB, simprocAttr]
        exact z08 (by refine ⟨_, by omega, i + 1, _, rfl, by omega, z23 hi a_1 (by simp [few, h5']), ?_, ?_, ?_, ?_, rfl⟩ <;> simp only [w_len, w_2, w_3, ZB, simprocAttr])
       ·have h5' : ¬ c.head[i].vars.length = 1 := by omega
        have hf : few c.head[i] = false := by simp [few, h4, h5']
        simp only [hi, z0t hi, h3, h4, h5, w_len, w_6, w_3, ↓ZA, ZB, simprocAttr]
        exact rq1 (by rw [hS, if_pos (.inr (.inr (z29 hi hf)))])
      ·simp only [hi, z0t hi, h3, h4, z02 hi (by omega), w_len, w_6, w_3, ↓ZA, ZB, simprocAttr]
       exact z08 (by refine ⟨_, by omega, i + 1, _, rfl, by omega, z23 hi a_1 (by simp [few, h3', h4]), ?_, ?_, ?_, ?_, rfl⟩ <;> simp only [w_len, w_2, w_3, ZB, simprocAttr])
    ·have k1 : c.head.all few = true := List.all_eq_true.2 (z2s hi a_1)
     have k1' : ¬ ((c.head.length : Int) ≠ r.rels[n].arity ∨ (4 : Int) < c.body.length ∨ c.head.all few = false) := by
      rw [k1]
      simp only [h1, h2]
      simp
     rw [if_neg k1'] at hS
     simp only [hi, w_len, w_6, w_3, ↓ZA, ZB, simprocAttr]
     refine z09 (fun e0 s0 m env st => ∃ (j nxj : Nat), m = c.head.length - j ∧ (j ≤ c.head.length) ∧ (∀ x ∈ c.head.take j, nmd x = true) ∧ env.length = 169 ∧ env.getD 7 .undef = .d (.int .i64 j) ∧ env.getD 2 .undef = .ptr 0 0 ∧ env.getD 3 .undef = .ptr 1 0 ∧ st = { s := s0.s, next := nxj, low := s0.low }) ?_ (c.head.length) (by refine ⟨0, _, rfl, by omega, by simp, ?_, ?_, ?_, ?_, rfl⟩ <;> simp only [w_len, w_2, w_3, ZB, simprocAttr])
     rintro m env st ⟨j, nxj, hm, b_0, b_1, w_len, w_7, w_2, w_3, rfl⟩
     by_cases hj : j < c.head.length
     ·have hp := hc.2.1.2 _ (List.getElem_mem hj)
      have hvl := hp.2.1
      unfold LOk at hvl
      have hnm := fun st => z58 hp.1 st
      have ho : ∀ (b : Bool), (if b = true then (V.d (.bool true)) else V.d (.bool false)) = .d (.bool b) := fun b => by cases b <;> rfl
      by_cases h4 : c.head[j].name = [] ∨ z0x c.head[j].name = true
      ·have h4' : ∀ st, ∃ u, z05 G (.fn 115 [] []) [.d (.str c.head[j].name)] st = some (.d (.bool u), st) ∧ (c.head[j].name = [] ∨ u = true) := fun st => ⟨_, hnm st, h4⟩
       by_cases h5 : c.head[j].name = []
       ·simp only [hj, z0t hj, h5, w_len, w_7, w_3, ↓ZA, ZB, simprocAttr]
        refine z09 (fun e0 s0 m env st => ∃ (k nxk : Nat), m = c.head[j].vars.length - k ∧ (k ≤ c.head[j].vars.length) ∧ (∀ x ∈ c.head[j].vars.take k, z0x x = true) ∧ env.length = 169 ∧ env.getD 8 .undef = .d (.int .i64 k) ∧ env.getD 2 .undef = .ptr 0 0 ∧ env.getD 3 .undef = .ptr 1 0 ∧ env.getD 7 .undef = .d (.int .i64 j) ∧ st = { s := s0.s, next := nxk, low := s0.low }) ?_ (c.head[j].vars.length) (by refine ⟨0, _, rfl, by omega, by simp, ?_, ?_, ?_, ?_, ?_, rfl⟩ <;> simp only [w_len, w_7, w_2, w_3, ZB, simprocAttr])
        rintro m env st ⟨k, nxk, hm, d_0, d_1, w_len, w_8, w_2, w_3, w_7, rfl⟩
        by_cases hk : k < c.head[j].vars.length
        ·simp only [hk, z0t hj, z1d hk, z58 (hp.2.2 _ (List.getElem_mem hk)), w_len, w_8, w_3, w_7, ↓ZA, ZB, simprocAttr]
         cases he : z0x c.head[j].vars[k] with
         | false =>
          have hf : nmd c.head[j] = false := by simp only [nmd, z29 hk he, Bool.and_false]
          simp only [w_len, ↓ZA, ZB, simprocAttr]
          exact rq1 (by rw [hS, if_pos (z29 hj hf)])
         | true =>
          simp only [z02 hk (by omega), w_len, w_8, ↓ZA, ZB, simprocAttr]
          exact z08 (by refine ⟨_, by omega, k + 1, _, rfl, by omega, z23 hk d_1 he, ?_, ?_, ?_, ?_, ?_, rfl⟩ <;> simp only [w_len, w_2, w_3, w_7, ZB, simprocAttr])
        ·simp only [hk, z0t hj, z02 hj (by omega), w_len, w_8, w_3, w_7, ↓ZA, ZB, simprocAttr]
         exact z08 (by refine ⟨_, by omega, j + 1, _, rfl, by omega, z23 hj b_1 (by simp only [nmd, List.all_eq_true.2 (z2s hk d_1), h5, decide_true, Bool.true_or, Bool.and_self]), ?_, ?_, ?_, ?_, rfl⟩ <;> simp only [w_len, w_2, w_3, ZB, simprocAttr])
       ·have h6 : z0x c.head[j].name = true := h4.resolve_left h5
        simp only [hj, z0t hj, h5, hnm, h6, w_len, w_7, w_3, ↓ZA, ZB, simprocAttr]
        refine z09 (fun e0 s0 m env st => ∃ (k nxk : Nat), m = c.head[j].vars.length - k ∧ (k ≤ c.head[j].vars.length) ∧ (∀ x ∈ c.head[j].vars.take k, z0x x = true) ∧ env.length = 169 ∧ env.getD 8 .undef = .d (.int .i64 k) ∧ env.getD 2 .undef = .ptr 0 0 ∧ env.getD 3 .undef = .ptr 1 0 ∧ env.getD 7 .undef = .d (.int .i64 j) ∧ st = { s := s0.s, next := nxk, low := s0.low }) ?_ (c.head[j].vars.length) (by refine ⟨0, _, rfl, by omega, by simp, ?_, ?_, ?_, ?_, ?_, rfl⟩ <;> simp only [w_len, w_7, w_2, w_3, ZB, simprocAttr])
        rintro m env st ⟨k, nxk, hm, d_0, d_1, w_len, w_8, w_2, w_3, w_7, rfl⟩
        by_cases hk : k < c.head[j].vars.length
        ·simp only [hk, z0t hj, z1d hk, z58 (hp.2.2 _ (List.getElem_mem hk)), w_len, w_8, w_3, w_7, ↓ZA, ZB, simprocAttr]
         cases he : z0x c.head[j].vars[k] with
         | false =>
          have hf : nmd c.head[j] = false := by simp only [nmd, z29 hk he, Bool.and_false]
          simp only [w_len, ↓ZA, ZB, simprocAttr]
          exact rq1 (by rw [hS, if_pos (z29 hj hf)])
         | true =>
          simp only [z02 hk (by omega), w_len, w_8, ↓ZA, ZB, simprocAttr]
          exact z08 (by refine ⟨_, by omega, k + 1, _, rfl, by omega, z23 hk d_1 he, ?_, ?_, ?_, ?_, ?_, rfl⟩ <;> simp only [w_len, w_2, w_3, w_7, ZB, simprocAttr])
        ·simp only [hk, z0t hj, z02 hj (by omega), w_len, w_8, w_3, w_7, ↓ZA, ZB, simprocAttr]
         exact z08 (by refine ⟨_, by omega, j + 1, _, rfl, by omega, z23 hj b_1 (by simp only [nmd, List.all_eq_true.2 (z2s hk d_1), h6, Bool.or_true, Bool.and_self]), ?_, ?_, ?_, ?_, rfl⟩ <;> simp only [w_len, w_2, w_3, ZB, simprocAttr])
      ·have h5 : ¬ c.head[j].name = [] := fun h => h4 (.inl h)
       have h6 : z0x c.head[j].name = false := by
        cases h : z0x c.head[j].name with
        | false => rfl
        | true => exact absurd (.inr h) h4
       have hf : nmd c.head[j] = false := by simp [nmd, h5, h6]
       simp only [hj, z0t hj, h5, hnm, h6, w_len, w_7, w_3, ↓ZA, ZB, simprocAttr]
       exact rq1 (by rw [hS, if_pos (z29 hj hf)])
     ·have k2 : ¬ c.head.all nmd = false := by rw [List.all_eq_true.2 (z2s hj b_1)]; simp
      rw [if_neg k2] at hS
      simp only [hj, w_len, w_7, w_3, ↓ZA, ZB, simprocAttr]
      refine z09 (fun e0 s0 m env st => ∃ (x nxx : Nat), m = c.body.length - x ∧ (x ≤ c.body.length) ∧ (∀ a ∈ c.body.take x, z2p r c.head a = 0) ∧ env.length = 169 ∧ env.getD 9 .undef = .d (.int .i64 x) ∧ env.getD 2 .undef = .ptr 0 0 ∧ env.getD 3 .undef = .ptr 1 0 ∧ st = { s := s0.s, next := nxx, low := s0.low }) ?_ (c.body.length) (by refine ⟨0, _, rfl, by omega, by simp, ?_, ?_, ?_, ?_, rfl⟩ <;> simp only [w_len, w_2, w_3, ZB, simprocAttr])
      rintro m env st ⟨x, nxx, hm, e_0, e_1, w_len, w_9, w_2, w_3, rfl⟩
      by_cases hx : x < c.body.length
      ·have hal := (hc.2.2.2 _ (List.getElem_mem hx)).2.1
       unfold LOk at hal
       simp only [hx, z0t hx, hR, w_len, w_9, w_2, w_3, ↓ZA, ZB, simprocAttr]
       unfold z4y
       rcases z4j (p := isR c.body[x].name) (l := r.rels) with ⟨f1, f2⟩ | ⟨m, hm', f1, f2⟩
       ·have hlt : (-1 : Int) < 0 := by omega
        have hA : z2p r c.head c.body[x] = 1 := by rw [z2p, f2]
        simp only [f1, hlt, w_len, ↓ZA, ZB, simprocAttr]
        exact rq1 (by rw [hS, z1n hx e_1 (by rw [hA]; omega), hA])
       ·have hlt : ¬ (m : Int) < 0 := by omega
        have hA : z2p r c.head c.body[x] = if (c.body[x].vars.length : Int) ≠ r.rels[m].arity then 2 else if c.body[x].vars.all (z39 c.head) = false then 6 else 0 := by rw [z2p, f2]
        simp only [f1, hlt, z0t hx, z1p hm', w_len, w_9, w_2, w_3, ↓ZA, ZB, simprocAttr]
        by_cases h7 : (c.body[x].vars.length : Int) = r.rels[m].arity
        ·simp only [h7, ↓ZA, ZB, simprocAttr]
         rw [if_neg (not_not_intro h7)] at hA
         refine z09 (fun e0 s0 m env st => ∃ (y nxy : Nat), m = c.body[x].vars.length - y ∧ (y ≤ c.body[x].vars.length) ∧ (∀ v ∈ c.body[x].vars.take y, z39 c.head v = true) ∧ env.length = 169 ∧ env.getD 11 .undef = .d (.int .i64 y) ∧ env.getD 2 .undef = .ptr 0 0 ∧ env.getD 3 .undef = .ptr 1 0 ∧ env.getD 9 .undef = .d (.int .i64 x) ∧ st = { s := s0.s, next := nxy, low := s0.low }) ?_ (c.body[x].vars.length) (by refine ⟨0, _, rfl, by omega, by simp, ?_, ?_, ?_, ?_, ?_, rfl⟩ <;> simp only [w_len, w_9, w_2, w_3, ZB, simprocAttr])
         rintro m env st ⟨y, nxy, hm, g_0, g_1, w_len, w_11, w_2, w_3, w_9, rfl⟩
         by_cases hy : y < c.body[x].vars.length
         ·simp only [hy, z0t hx, z1d hy, hT, w_len, w_11, w_3, w_9, ↓ZA, ZB, simprocAttr]
          cases he : z39 c.head c.body[x].vars[y] with
          | false =>
           rw [if_pos (z29 hy he)] at hA
           simp only [w_len, ↓ZA, ZB, simprocAttr]
           exact rq1 (by rw [hS, z1n hx e_1 (by rw [hA]; omega), hA])
          | true =>
           simp only [z02 hy (by omega), w_len, w_11, ↓ZA, ZB, simprocAttr]
           exact z08 (by refine ⟨_, by omega, y + 1, _, rfl, by omega, z23 hy g_1 he, ?_, ?_, ?_, ?_, ?_, rfl⟩ <;> simp only [w_len, w_2, w_3, w_9, ZB, simprocAttr])
         ·rw [List.all_eq_true.2 (z2s hy g_1), if_neg (by simp)] at hA
          simp only [hy, z0t hx, z02 hx (by omega), w_len, w_11, w_3, w_9, ↓ZA, ZB, simprocAttr]
          exact z08 (by refine ⟨_, by omega, x + 1, _, rfl, by omega, z55 hx e_1 hA, ?_, ?_, ?_, ?_, rfl⟩ <;> simp only [w_len, w_2, w_3, ZB, simprocAttr])
        ·rw [if_pos h7] at hA
         simp only [h7, w_len, ↓ZA, ZB, simprocAttr]
         exact rq1 (by rw [hS, z1n hx e_1 (by rw [hA]; omega), hA])
      ·simp only [hx, w_len, w_9, w_3, ↓ZA, ZB, simprocAttr]
       exact rq1 (by rw [hS, z1y (z54 hx e_1)])
  ·simp only [h1, w_len, ↓ZA, ZB, simprocAttr]
   exact rq1 (by rw [hS, if_pos (.inl h1)])
end Go.Lift.K
namespace Go.Lift.K
open Go Go.Lift
set_option maxRecDepth 100000
theorem z8t {α : Type} {l : List α} {i : Nat} {x : α} (hi : i < l.length) : l.getD i x = l[i] := by simp [hi]
theorem zmt {r : RulesT} (hr : r.ok) (st : St) : z05 G (.fn 44 [] []) [.d r.d] st = some (.d (.int .i64 (z1c r)), st) := by
 have hrl := hr.1.1
 have hcl := hr.2.1
 unfold LOk at hrl hcl
 have hA : ∀ {i : Nat} (hi : i < r.rels.length) (st : St), z05 G (.fn 90 [] []) [.d (.agg [.sl (r.rels.map RelT.d), .sl (r.clauses.map ClauseT.d)]), .d (.int .i64 i)] st = _ := fun hi st => zio hr hi st
 have hB : ∀ {i : Nat} (hi : i < r.clauses.length) (st : St), z05 G (.fn 91 [] []) [.d (.agg [.sl (r.rels.map RelT.d), .sl (r.clauses.map ClauseT.d)]), .d (.agg [.str r.clauses[i].rel, .sl (r.clauses[i].head.map PatT.d), .sl (r.clauses[i].body.map PatT.d)])] st = _ := fun hi st => zcg hr (hr.2.2 _ (List.getElem_mem hi)) st
 refine z0f (ds := [r.d]) (rs := [.int .i64 (z1c r)]) T1.g44 rfl rfl (fun e w_len harg => ?_) st
 have w_len : e.length = 47 := w_len
 have w_0 := harg 0 (by simp)
 clear harg
 simp only [List.map_cons, List.map_nil, List.getD_cons_zero] at w_0
 simp only [T1.i44, RulesT.d, zjh, z6e, w_len, w_0, ↓ZA, ZB, simprocAttr]
 by_cases h1 : (r.rels.length : Int) < 1 ∨ (8 : Int) < r.rels.length
 ·simp only [h1, w_len, ↓ZA, ZB, simprocAttr]
  exact rq1 (by rw [z1c, if_pos (.inl h1)])
 ·by_cases h2 : (24 : Int) < r.clauses.length
  ·simp only [h1, h2, w_len, ↓ZA, ZB, simprocAttr]
   exact rq1 (by rw [z1c, if_pos (.inr h2)])
  ·have hS : z1c r = _ := if_neg (fun h => h.elim h1 h2)
   simp only [h1, h2, w_len, ↓ZA, ZB, simprocAttr]
   refine z09 (fun e0 s0 m env st => ∃ (i nxi : Nat), m = r.rels.length - i ∧ (i ≤ r.rels.length) ∧ (∀ j, j < i → z1b r j (r.rels.getD j ⟨[], 0, 0⟩) = 0) ∧ env.length = 47 ∧ env.getD 3 .undef = .d (.int .i64 i) ∧ env.getD 1 .undef = .ptr 0 0 ∧ st = { s := s0.s, next := nxi, low := s0.low }) ?_ (r.rels.length) (by refine ⟨0, _, rfl, by omega, by omega, ?_, ?_, ?_, rfl⟩ <;> simp only [w_len, ZB, simprocAttr])
   rintro m env st ⟨i, nxi, hm, a_0, a_1, w_len, w_3, w_1, rfl⟩
   by_cases hi : i < r.rels.length
   ·simp only [hi, hA hi, w_len, w_3, w_1, ↓ZA, ZB, simprocAttr]
    by_cases he : z1b r i r.rels[i] = 0
    ·simp only [he, z02 hi (by omega), w_len, w_3, ↓ZA, ZB, simprocAttr]
     exact z08 (by refine ⟨_, by omega, i + 1, _, rfl, by omega, zpf a_1 (by rw [z8t hi]; exact he), ?_, ?_, ?_, rfl⟩ <;> simp only [w_len, w_1, ZB, simprocAttr])
    ·have he' : z1b r i (r.rels.getD i ⟨[], 0, 0⟩) ≠ 0 := by rw [z8t hi]; exact he
     have hf := zgl (f := fun i => z1b r i (r.rels.getD i ⟨[], 0, 0⟩)) hi a_1 he'
     simp only [he, w_len, ↓ZA, ZB, simprocAttr]
     exact rq1 (by rw [hS, hf, if_pos he', z8t hi])
   ·have hf := zbt (f := fun i => z1b r i (r.rels.getD i ⟨[], 0, 0⟩)) (n := r.rels.length) fun j hj => a_1 j (by omega)
    rw [hf, if_neg (not_not_intro rfl)] at hS
    simp only [hi, w_len, w_3, w_1, ↓ZA, ZB, simprocAttr]
    refine z09 (fun e0 s0 m env st => ∃ (j nxj : Nat), m = r.clauses.length - j ∧ (j ≤ r.clauses.length) ∧ (∀ c ∈ r.clauses.take j, z17 r c = 0) ∧ env.length = 47 ∧ env.getD 5 .undef = .d (.int .i64 j) ∧ env.getD 1 .undef = .ptr 0 0 ∧ st = { s := s0.s, next := nxj, low := s0.low }) ?_ (r.clauses.length) (by refine ⟨0, _, rfl, by omega, by simp, ?_, ?_, ?_, rfl⟩ <;> simp only [w_len, w_1, ZB, simprocAttr])
    rintro m env st ⟨j, nxj, hm, b_0, b_1, w_len, w_5, w_1, rfl⟩
    by_cases hj : j < r.clauses.length
    ·simp only [hj, z2a hj, hB hj, w_len, w_5, w_1, ↓ZA, ZB, simprocAttr]
     by_cases he : z17 r r.clauses[j] = 0
     ·simp only [he, z02 hj (by omega), w_len, w_5, ↓ZA, ZB, simprocAttr]
      exact z08 (by refine ⟨_, by omega, j + 1, _, rfl, by omega, z55 hj b_1 he, ?_, ?_, ?_, rfl⟩ <;> simp only [w_len, w_1, ZB, simprocAttr])
     ·simp only [he, w_len, ↓ZA, ZB, simprocAttr]
      exact rq1 (by rw [hS, z1n hj b_1 he])
    ·simp only [hj, w_len, w_5, w_1, ↓ZA, ZB, simprocAttr]
     exact rq1 (by rw [hS, z1y (z54 hj b_1)])
theorem zqm {r : RulesT} (hr : r.ok) {g : GoalT} (hg : g.ok) (st : St) : z05 G (.fn 9 [] []) [.d r.d, .d g.d] st = some (.d (.int .i64 (z1m r g)), st) := by
 have hC : ∀ (st : St), z05 G (.fn 44 [] []) [.d (.agg [.sl (r.rels.map RelT.d), .sl (r.clauses.map ClauseT.d)])] st = _ := fun st => zmt hr st
 have hR : ∀ (n : List Nat) (st : St), z05 G (.fn 45 [] []) [.d (.agg [.sl (r.rels.map RelT.d), .sl (r.clauses.map ClauseT.d)]), .d (.str n)] st = _ := fun n st => zas hr.1.1 st
 refine z0f (ds := [r.d, g.d]) (rs := [.int .i64 (z1m r g)]) T1.g9 rfl rfl (fun e w_len harg => ?_) st
 have w_len : e.length = 31 := w_len
 have w_0 := harg 0 (by simp)
 have w_1 := harg 1 (by simp)
 clear harg
 simp only [List.map_cons, List.map_nil, List.getD_cons_zero, List.getD_cons_succ] at w_0 w_1
 simp only [T1.i9, RulesT.d, GoalT.d, hC, w_len, w_0, w_1, ↓ZA, ZB, simprocAttr]
 by_cases h1 : z1c r = 0
 ·simp only [h1, hR, w_len, ↓ZA, ZB, simprocAttr]
  have hS : z1m r g = _ := if_neg (not_not_intro h1)
  unfold z4y
  rcases z4j (p := isR g.rel) (l := r.rels) with ⟨e1, e2⟩ | ⟨n, hn, e1, e2⟩
  ·have hlt : (-1 : Int) < 0 := by omega
   simp only [e1, hlt, w_len, ↓ZA, ZB, simprocAttr]
   exact rq1 (by rw [hS, e2])
  ·have hlt : ¬ (n : Int) < 0 := by omega
   simp only [e2] at hS
   simp only [e1, hlt, z1p hn, w_len, ↓ZA, ZB, simprocAttr]
   by_cases h2 : (g.args.length : Int) = r.rels[n].arity
   ·rw [if_neg (not_not_intro h2)] at hS
    simp only [h2, zfd hg.2.1 hg.2.2, w_len, ↓ZA, ZB, simprocAttr]
    exact rq1 (by rw [hS])
   ·rw [if_pos h2] at hS
    simp only [h2, w_len, ↓ZA, ZB, simprocAttr]
    exact rq1 (by rw [hS])
 ·have hS : z1m r g = _ := if_pos h1
  simp only [h1, w_len, ↓ZA, ZB, simprocAttr]
  exact rq1 (by rw [hS])
end Go.Lift.K
namespace Go.Lift.K
open Go Go.Lift
set_option maxRecDepth 100000
theorem zxq {name : List Nat} {l : List RelT} {s : List (Nat × Obj)} {n0 k : Nat} (hk : k < n0) (ho : sget s k = some (.cells [.d (.str name)])) : TellsT G (.fn 147 [] [.ptr k 0]) s n0 RelT.d (· ∈ l) (isR name) := by
 intro x _ s' nx lw hs hn
 have hne : (nx = k) = False := by simp; omega
 have ho' : sget s' k = _ := (hs k hk).trans ho
 refine z4p (first := []) (args := [.d x.d]) (cap := [.ptr k 0]) (us := [.d (.bool (isR name x))]) T1.g147 rfl rfl rfl (fun e w_len harg => ?_)
 have w_len : e.length = 8 := w_len
 have w_0 : e.getD 0 .undef = .d x.d := harg 0 (by simp)
 have w_1 : e.getD 1 .undef = .ptr k 0 := harg 1 (by simp)
 clear harg
 simp only [T1.i147, RelT.d, hne, ho', w_len, w_0, w_1, ↓ZA, ZB, simprocAttr]
 exact ru1 (by first | exact Nat.le_refl _ | exact z03 (Nat.le_refl _) (by omega) | exact z03 (z03 (Nat.le_refl _) (by omega)) (by omega)) rfl
theorem zb4 {r : RulesT} (hr : LOk r.rels) {name : List Nat} (st : St) : z05 G (.fn 123 [] []) [.d r.d, .d (.str name)] st = some (.d (.int .i64 (z4y r.rels name)), st) := by
 unfold LOk at hr
 refine z0f (ds := [r.d, .str name]) (rs := [.int .i64 (z4y r.rels name)]) T1.g123 rfl rfl (fun e w_len harg => ?_) st
 have w_len : e.length = 10 := w_len
 have w_0 := harg 0 (by simp)
 have w_1 := harg 1 (by simp)
 clear harg
 simp only [List.map_cons, List.map_nil, List.getD_cons_zero, List.getD_cons_succ] at w_0 w_1
 have hc : ∀ s nx lw, sget s 1 = some (.cells [.d (.str name)]) → 1 < nx → z05 G (.fn 68 [] []) [.d (.sl (r.rels.map RelT.d)), .fn 147 [] [.ptr 1 0]] { s := s, next := nx, low := lw } = _ := fun s nx lw h1 h2 =>
  zq9 T1.g68 (by omega) (fun a _ => zby) (zxq h2 h1)
 simp only [T1.i123, RulesT.d, hc, w_len, w_0, w_1, ↓ZA, ZB, simprocAttr]
 exact rq1 (by rfl)
theorem zxl {r : RulesT} (hr : r.ok) {i : Nat} (hi : i < r.rels.length) (st : St) : z05 G (.fn 145 [] []) [.d r.d, .d (.int .i64 i)] st = some (.d (.int .i64 (z1b r i r.rels[i])), st) := by
 have hx := hr.1.2 _ (List.getElem_mem hi)
 have hN : ∀ (n : List Nat) (st : St), z05 G (.fn 123 [] []) [.d (.agg [.sl (r.rels.map RelT.d), .sl (r.clauses.map ClauseT.d)]), .d (.str n)] st = _ := fun n st => zb4 hr.1.1 st
 have hM := fun st => zb6 hx.1 st
 refine z0f (ds := [r.d, .int .i64 i]) (rs := [.int .i64 (z1b r i r.rels[i])]) T1.g145 rfl rfl (fun e w_len harg => ?_) st
 have w_len : e.length = 42 := w_len
 have w_0 := harg 0 (by simp)
 have w_1 := harg 1 (by simp)
 clear harg
 simp only [List.map_cons, List.map_nil, List.getD_cons_zero, List.getD_cons_succ] at w_0 w_1
 simp only [T1.i145, RulesT.d, z1p hi, hM, w_len, w_0, w_1, ↓ZA, ZB, simprocAttr]
 cases h1 : z0x r.rels[i].name with
 | false =>
  simp only [w_len, ↓ZA, ZB, simprocAttr]
  exact rq1 (by rw [z1b, if_pos h1])
 | true =>
  have h1' : ¬ z0x r.rels[i].name = false := by simp [h1]
  simp only [w_len, ↓ZA, ZB, simprocAttr]
  by_cases h2 : r.rels[i].arity < 1
  ·simp only [h2, w_len, ↓ZA, ZB, simprocAttr]
   exact rq1 (by rw [z1b, if_neg h1', if_pos (.inl h2)])
  ·by_cases h2' : 3 < r.rels[i].arity
   ·simp only [h2, h2', w_len, ↓ZA, ZB, simprocAttr]
    exact rq1 (by rw [z1b, if_neg h1', if_pos (.inr h2')])
   ·have k2 : ¬ (r.rels[i].arity < 1 ∨ 3 < r.rels[i].arity) := fun h => h.elim h2 h2'
    by_cases h3 : r.rels[i].rank < 0
    ·simp only [h2, h2', h3, w_len, ↓ZA, ZB, simprocAttr]
     exact rq1 (by rw [z1b, if_neg h1', if_neg k2, if_pos (.inl h3)])
    ·by_cases h3' : 3 < r.rels[i].rank
     ·simp only [h2, h2', h3, h3', w_len, ↓ZA, ZB, simprocAttr]
      exact rq1 (by rw [z1b, if_neg h1', if_neg k2, if_pos (.inr h3')])
     ·have k3 : ¬ (r.rels[i].rank < 0 ∨ 3 < r.rels[i].rank) := fun h => h.elim h3 h3'
      by_cases h4 : z4y r.rels r.rels[i].name < i
      ·simp only [h2, h2', h3, h3', hN, h4, w_len, w_1, ↓ZA, ZB, simprocAttr]
       exact rq1 (by rw [z1b, if_neg h1', if_neg k2, if_neg k3, if_pos h4])
      ·simp only [h2, h2', h3, h3', hN, h4, w_len, w_1, ↓ZA, ZB, simprocAttr]
       exact rq1 (by rw [z1b, if_neg h1', if_neg k2, if_neg k3, if_neg h4])
theorem zyn {x : PatT} (hx : x.ok) (st : St) : z05 G (.fn 170 [] []) [.d x.d] st = some (.d (.bool (few x)), st) := by
 have hl := hx.2.1
 unfold LOk at hl
 refine z0f (ds := [x.d]) (rs := [.bool (few x)]) T1.g170 rfl rfl (fun e w_len harg => ?_) st
 have w_len : e.length = 18 := w_len
 have w_0 := harg 0 (by simp)
 clear harg
 simp only [List.map_cons, List.map_nil, List.getD_cons_zero] at w_0
 simp only [T1.i170, PatT.d, w_len, w_0, ↓ZA, ZB, simprocAttr]
 by_cases h1 : (x.vars.length : Int) ≤ 4
 ·have h1' : x.vars.length ≤ 4 := by omega
  by_cases h2 : x.name = []
  ·simp only [h1, h2, w_len, ↓ZA, ZB, simprocAttr]
   exact rq1 (by simp [few, h1', h2]; omega)
  ·simp only [h1, h2, w_len, ↓ZA, ZB, simprocAttr]
   exact rq1 (by simp [few, h1', h2])
 ·have h1' : ¬ x.vars.length ≤ 4 := by omega
  simp only [h1, w_len, ↓ZA, ZB, simprocAttr]
  exact rq1 (by simp [few, h1'])
theorem zp7 {l : List (List Nat)} (hl : SsOk l) (st : St) : z05 G (.fn 172 [] []) [.d (.sl (l.map D.str))] st = some (.d (.bool (l.all z0x)), st) := by
 have hll := hl.1
 unfold LOk at hll
 have hE : ∀ s nx lw, z05 G (.fn 173 [] []) [.d (.sl (l.map D.str)), .fn 78 [] []] { s := s, next := nx, low := lw } = _ := fun s nx lw =>
  z5b (enc := D.str) (p := z0x) (es := 1) (ag := false) T1.g173 T1.g20 T1.g67 (.inr T1.g188) rfl rfl (by omega) (fun a _ => .inr ⟨rfl, rfl, rfl⟩) (z2c fun a ha st => zb6 (hl.2 a ha) st)
 refine z0f (ds := [.sl (l.map D.str)]) (rs := [.bool (l.all z0x)]) T1.g172 rfl rfl (fun e w_len harg => ?_) st
 have w_len : e.length = 5 := w_len
 have w_0 := harg 0 (by simp)
 clear harg
 simp only [List.map_cons, List.map_nil, List.getD_cons_zero] at w_0
 simp only [T1.i172, hE, w_len, w_0, ↓ZA, ZB, simprocAttr]
 exact rq1 (by rfl)
theorem zxv {l : List PatT} (hl : ∀ x ∈ l, x.ok) {s : List (Nat × Obj)} {n0 k : Nat} (hk : k < n0) (ho : sget s k = some (.cells [.fn 172 [] []])) : TellsT G (.fn 174 [] [.ptr k 0]) s n0 PatT.d (· ∈ l) nmd := by
 intro x hx s' nx lw hs hn
 have hne : (nx = k) = False := by simp; omega
 have ho' : sget s' k = _ := (hs k hk).trans ho
 have hM := fun st => zb6 (hl x hx).1 st
 have hC := fun st => zp7 (hl x hx).2 st
 refine z4p (first := []) (args := [.d x.d]) (cap := [.ptr k 0]) (us := [.d (.bool (nmd x))]) T1.g174 rfl rfl rfl (fun e w_len harg => ?_)
 have w_len : e.length = 18 := w_len
 have w_0 : e.getD 0 .undef = .d x.d := harg 0 (by simp)
 have w_1 : e.getD 1 .undef = .ptr k 0 := harg 1 (by simp)
 clear harg
 by_cases h2 : x.name = []
 ·simp only [T1.i174, PatT.d, hne, ho', hC, h2, w_len, w_0, w_1, ↓ZA, ZB, simprocAttr]
  exact ru1 (by first | exact Nat.le_refl _ | exact z03 (Nat.le_refl _) (by omega) | exact z03 (z03 (Nat.le_refl _) (by omega)) (by omega)) (by simp [nmd, h2])
 ·cases h3 : z0x x.name with
  | true =>
   simp only [T1.i174, PatT.d, hne, ho', hM, hC, h2, h3, w_len, w_0, w_1, ↓ZA, ZB, simprocAttr]
   exact ru1 (by first | exact Nat.le_refl _ | exact z03 (Nat.le_refl _) (by omega) | exact z03 (z03 (Nat.le_refl _) (by omega)) (by omega)) (by simp [nmd, h2, h3])
  | false =>
   simp only [T1.i174, PatT.d, hM, h2, h3, w_len, w_0, ↓ZA, ZB, simprocAttr]
   exact ru1 (by first | exact Nat.le_refl _ | exact z03 (Nat.le_refl _) (by omega) | exact z03 (z03 (Nat.le_refl _) (by omega)) (by omega)) (by simp [nmd, h2, h3])
end Go.Lift.K
namespace Go.Lift.K
open Go Go.Lift
set_option maxRecDepth 100000
theorem zll {l : List PatT} (hl : ∀ x ∈ l, x.ok) {v : List Nat} {s : List (Nat × Obj)} {n0 k : Nat} (hk : k < n0) (ho : sget s k = some (.cells [.d (.str v)])) : TellsT G (.fn 176 [] [.ptr k 0]) s n0 PatT.d (· ∈ l) (fun x => x.vars.any fun y => decide (y = v)) := by
 intro x hx s' nx lw hs hn
 have hne : (nx = k) = False := by simp; omega
 have ho' : sget s' k = _ := (hs k hk).trans ho
 have hxl := (hl x hx).2.1
 unfold LOk at hxl
 have hC : ∀ st, z05 G (.fn 177 [] []) [.d (.sl (x.vars.map D.str)), .d (.str v)] st = some (.d (.bool (x.vars.any fun y => decide (y = v))), st) := fun st => by
  rw [y2o T1.g177 T1.g189 (by simp; omega) (fun y hy => by obtain ⟨a, _, rfl⟩ := List.mem_map.1 hy; rfl) st]
  rw [List.any_map]
  simp only [Function.comp_def, zhh, eq_comm]
 refine z4p (first := []) (args := [.d x.d]) (cap := [.ptr k 0]) (us := [.d (.bool (x.vars.any fun y => decide (y = v)))]) T1.g176 rfl rfl rfl (fun e w_len harg => ?_)
 have w_len : e.length = 8 := w_len
 have w_0 : e.getD 0 .undef = .d x.d := harg 0 (by simp)
 have w_1 : e.getD 1 .undef = .ptr k 0 := harg 1 (by simp)
 clear harg
 simp only [T1.i176, PatT.d, hne, ho', hC, w_len, w_0, w_1, ↓ZA, ZB, simprocAttr]
 exact ru1 (by first | exact Nat.le_refl _ | exact z03 (Nat.le_refl _) (by omega) | exact z03 (z03 (Nat.le_refl _) (by omega)) (by omega)) rfl
theorem znl {c : ClauseT} (hc : zdm c.head) {l : List (List Nat)} {s : List (Nat × Obj)} {n0 k : Nat} (hk : k < n0) (ho : sget s k = some (.cells [.d (.str c.rel), .d (.sl (c.head.map PatT.d)), .d (.sl (c.body.map PatT.d))])) : TellsT G (.fn 175 [] [.ptr k 0]) s n0 D.str (· ∈ l) (z39 c.head) := by
 intro v _ s' nx lw hs hn
 have hne : (nx = k) = False := by simp; omega
 have ho' : sget s' k = _ := (hs k hk).trans ho
 have hl := hc.1
 unfold LOk at hl
 have hC : ∀ s nx' lw, sget s nx = some (.cells [.d (.str v)]) → nx < nx' → z05 G (.fn 26 [] []) [.d (.sl (c.head.map PatT.d)), .fn 176 [] [.ptr nx 0]] { s := s, next := nx', low := lw } = some (.d (.bool (z39 c.head v)), { s := s, next := nx', low := lw }) := fun s nx' lw h1 h2 =>
  z65 (p := fun x : PatT => x.vars.any fun y => decide (y = v)) T1.g26 T1.g70 (by omega) (fun a _ => z4l) (zll hc.2 h2 h1)
 have hlt : nx < nx + 2 + 5 := by omega
 refine z4p (first := []) (args := [.d (.str v)]) (cap := [.ptr k 0]) (us := [.d (.bool (z39 c.head v))]) T1.g175 rfl rfl rfl (fun e w_len harg => ?_)
 have w_len : e.length = 8 := w_len
 have w_0 : e.getD 0 .undef = .d (.str v) := harg 0 (by simp)
 have w_1 : e.getD 1 .undef = .ptr k 0 := harg 1 (by simp)
 clear harg
 simp only [T1.i175, hne, ho', hC, hlt, w_len, w_0, w_1, ↓ZA, ZB, simprocAttr]
 exact ru1 (by first | exact Nat.le_refl _ | exact z03 (Nat.le_refl _) (by omega) | exact z03 (z03 (Nat.le_refl _) (by omega)) (by omega)) rfl
theorem zlw {r : RulesT} (hr : r.ok) {c : ClauseT} (hc : c.ok) (st : St) : z05 G (.fn 146 [] []) [.d r.d, .d c.d] st = some (.d (.int .i64 (z17 r c)), st) := by
 have hrl := hr.1.1
 have hhl := hc.2.1.1
 have hbl := hc.2.2.1
 unfold LOk at hhl hbl
 have hN : ∀ (n : List Nat) (st : St), z05 G (.fn 123 [.d (.agg [.sl (r.rels.map RelT.d), .sl (r.clauses.map ClauseT.d)])] []) [.d (.str n)] st = some (.d (.int .i64 (z4y r.rels n)), st) := fun n st =>
  (zls T1.g123 rfl rfl rfl).trans (zb4 hr.1.1 st)
 have hE1 : ∀ st, z05 G (.fn 171 [] []) [.d (.sl (c.head.map PatT.d)), .fn 170 [] []] st = some (.d (.bool (c.head.all few)), st) := fun st =>
  z5b (enc := PatT.d) (p := few) (es := 2) (ag := true) T1.g171 T1.g26 T1.g70 (.inl T1.g187) rfl rfl (by omega) (fun a _ => z4l) (z2c fun a ha st => zyn (hc.2.1.2 a ha) st)
 have hE2 : ∀ s nx lw k, sget s k = some (.cells [.fn 172 [] []]) → k < nx → z05 G (.fn 171 [] []) [.d (.sl (c.head.map PatT.d)), .fn 174 [] [.ptr k 0]] { s := s, next := nx, low := lw } = some (.d (.bool (c.head.all nmd)), { s := s, next := nx, low := lw }) := fun s nx lw k h1 h2 =>
  z5b (enc := PatT.d) (p := nmd) (es := 2) (ag := true) T1.g171 T1.g26 T1.g70 (.inl T1.g187) rfl rfl (by omega) (fun a _ => z4l) (zxv hc.2.1.2 h2 h1)
 refine z0f (ds := [r.d, c.d]) (rs := [.int .i64 (z17 r c)]) T1.g146 rfl rfl (fun e w_len harg => ?_) st
 have w_len : e.length = 84 := w_len
 have w_0 := harg 0 (by simp)
 have w_1 := harg 1 (by simp)
 clear harg
 simp only [List.map_cons, List.map_nil, List.getD_cons_zero, List.getD_cons_succ] at w_0 w_1
 simp only [T1.i146, RulesT.d, ClauseT.d, hN, w_len, w_0, w_1, ↓ZA, ZB, simprocAttr]
 unfold z4y
 rcases z4j (p := isR c.rel) (l := r.rels) with ⟨e1, e2⟩ | ⟨n, hn, e1, e2⟩
 ·have hlt : (-1 : Int) < 0 := by omega
  simp only [e1, hlt, w_len, ↓ZA, ZB, simprocAttr]
  exact rq1 (by rw [z17, e2])
 ·have hlt : ¬ (n : Int) < 0 := by omega
  have hS : z17 r c = if (c.head.length : Int) ≠ r.rels[n].arity ∨ (4 : Int) < c.body.length ∨ c.head.all few = false then 2 else if c.head.all nmd = false then 4 else z0p (z2p r c.head) c.body := by rw [z17, e2]
  by_cases h1 : (c.head.length : Int) = r.rels[n].arity
  ·by_cases h2 : (4 : Int) < c.body.length
   ·simp only [e1, hlt, z1p hn, h1, h2, w_len, ↓ZA, ZB, simprocAttr]
    exact rq1 (by rw [hS, if_pos (.inr (.inl h2))])
   ·cases h3 : c.head.all few with
    | false =>
     simp only [e1, hlt, z1p hn, h1, h2, hE1, h3, w_len, ↓ZA, ZB, simprocAttr]
     exact rq1 (by rw [hS, if_pos (.inr (.inr h3))])
    | true =>
     have k1' : ¬ ((c.head.length : Int) ≠ r.rels[n].arity ∨ (4 : Int) < c.body.length ∨ c.head.all few = false) := by
      rw [h3]
      simp only [h1, h2]
      simp
     rw [if_neg k1'] at hS
     cases h4 : c.head.all nmd with
     | false =>
      simp only [e1, hlt, z1p hn, h1, h2, hE1, h3, hE2, h4, w_len, ↓ZA, ZB, simprocAttr]
      exact rq1 (by rw [hS, if_pos h4])
     | true =>
      rw [if_neg (by rw [h4]; simp)] at hS
      simp only [e1, hlt, z1p hn, h1, h2, hE1, h3, hE2, h4, w_len, ↓ZA, ZB, simprocAttr]
      refine z09 (fun e0 s0 m env st => ∃ (i nxi lwi : Nat) (si : List (Nat × Obj)), m = c.body.length - i ∧ (i ≤ c.body.length) ∧ (∀ a ∈ c.body.take i, z2p r c.head a = 0) ∧ sget si (0) = some (.cells [.d (.sl (r.rels.map RelT.d)), .d (.sl (r.clauses.map ClauseT.d))]) ∧ sget si (1) = some (.cells [.d (.str c.rel), .d (.sl (c.head.map PatT.d)), .d (.sl (c.body.map PatT.d))]) ∧ 2 ≤ nxi ∧ 0 ≤ lwi ∧ env.length = 84 ∧ env.getD 53 .undef = .d (.int .i64 i) ∧ env.getD 2 .undef = .ptr 0 0 ∧ env.getD 3 .undef = .ptr 1 0 ∧ env.getD 5 .undef = .fn 123 [.d (.agg [.sl (r.rels.map RelT.d), .sl (r.clauses.map ClauseT.d)])] [] ∧ env.getD 51 .undef = .d (.sl (c.body.map PatT.d)) ∧ env.getD 52 .undef = .d (.int .i64 c.body.length) ∧ st = { s := si, next := nxi, low := lwi }) ?_ (c.body.length) (by refine ⟨0, _, _, _, rfl, by omega, by simp, ?_, ?_, (by omega), Nat.zero_le _, ?_, ?_, ?_, ?_, ?_, ?_, ?_, rfl⟩ <;> simp only [w_len, ZB, simprocAttr])
      rintro m env st ⟨i, nxi, lwi, si, hm, b_0, b_1, w_bc0, w_bc1, w_bb, w_blo, w_len, w_53, w_2, w_3, w_5, w_51, w_52, rfl⟩
      have w_bN := And.intro (cf1 (x := nxi) (a := 0) (by omega)) (cf1 (x := nxi) (a := 1) (by omega))
      have w_bS := And.intro (cf2 (x := nxi) (by omega) w_bc0) (cf2 (x := nxi) (by omega) w_bc1)
      have w_bZ := zf0 (x := nxi) (n := 2) (by omega)
      by_cases hi : i < c.body.length
      ·have hal := hc.2.2.2 _ (List.getElem_mem hi)
       have hall := hal.2.1
       unfold LOk at hall
       rcases z4j (p := isR c.body[i].name) (l := r.rels) with ⟨f1, f2⟩ | ⟨m, hm', f1, f2⟩
       ·have hA : z2p r c.head c.body[i] = 1 := by rw [z2p, f2]
        have hlt : (-1 : Int) < 0 := by omega
        simp only [hi, z0t hi, hN, z4y, f1, hlt, w_len, w_53, w_3, w_5, w_51, w_52, ↓ZA, ZB, simprocAttr]
        exact rq1 (by rw [hS, z1n hi b_1 (by rw [hA]; omega), hA])
       ·have hA : z2p r c.head c.body[i] = if (c.body[i].vars.length : Int) ≠ r.rels[m].arity then 2 else if c.body[i].vars.all (z39 c.head) = false then 6 else 0 := by rw [z2p, f2]
        have hlt : ¬ (m : Int) < 0 := by omega
        by_cases h7 : (c.body[i].vars.length : Int) = r.rels[m].arity
        ·have hE3 : ∀ s nx lw, sget s 1 = some (.cells [.d (.str c.rel), .d (.sl (c.head.map PatT.d)), .d (.sl (c.body.map PatT.d))]) → 1 < nx → z05 G (.fn 173 [] []) [.d (.sl (c.body[i].vars.map D.str)), .fn 175 [] [.ptr 1 0]] { s := s, next := nx, low := lw } = some (.d (.bool (c.body[i].vars.all (z39 c.head))), { s := s, next := nx, low := lw }) := fun s nx lw h1 h2 =>
          z5b (enc := D.str) (p := z39 c.head) (es := 1) (ag := false) T1.g173 T1.g20 T1.g67 (.inr T1.g188) rfl rfl (by omega) (fun a _ => .inr ⟨rfl, rfl, rfl⟩) (znl hc.2.1 h2 h1)
         rw [if_neg (not_not_intro h7)] at hA
         have h12 : ∀ a, 1 < nxi + (a + 2) := fun a => by omega
         cases h8 : c.body[i].vars.all (z39 c.head) with
         | false =>
          rw [if_pos h8] at hA
          simp (maxDischargeDepth := 60) only [hi, z0t hi, z1p hm', hN, z4y, f1, hlt, h7, hE3, h8, w_len, w_53, w_2, w_3, w_5, w_51, w_52, w_bc0, w_bc1, w_bS, ↓ZA, ZB, simprocAttr]
          exact rq1 (by rw [hS, z1n hi b_1 (by rw [hA]; omega), hA])
         | true =>
          rw [if_neg (by rw [h8]; simp)] at hA
          simp (maxDischargeDepth := 60) only [hi, z0t hi, z1p hm', hN, z4y, f1, hlt, h7, hE3, h8, z02 hi (by omega), w_len, w_53, w_2, w_3, w_5, w_51, w_52, w_bc0, w_bc1, w_bS, ↓ZA, ZB, simprocAttr]
          exact z08 (by refine ⟨_, by omega, i + 1, _, _, _, rfl, by omega, z55 hi b_1 hA, ?_, ?_, (by omega), Nat.zero_le _, ?_, ?_, ?_, ?_, ?_, ?_, ?_, rfl⟩ <;> simp (maxDischargeDepth := 60) only [w_len, w_2, w_3, w_5, w_51, w_52, w_bc0, w_bc1, ZB, simprocAttr])
        ·rw [if_pos h7] at hA
         simp only [hi, z0t hi, z1p hm', hN, z4y, f1, hlt, h7, w_len, w_53, w_2, w_3, w_5, w_51, w_52, w_bc0, ↓ZA, ZB, simprocAttr]
         exact rq1 (by rw [hS, z1n hi b_1 (by rw [hA]; omega), hA])
      ·simp only [hi, w_len, w_53, w_52, ↓ZA, ZB, simprocAttr]
       exact rq1 (by rw [hS, z1y (z54 hi b_1)])
  ·simp only [e1, hlt, z1p hn, h1, w_len, ↓ZA, ZB, simprocAttr]
   exact rq1 (by rw [hS, if_pos (.inl h1)])
end Go.Lift.K
namespace Go.Lift.K
open Go Go.Lift
set_option maxRecDepth 100000
theorem zom {r : RulesT} (hr : r.ok) (st : St) : z05 G (.fn 122 [] []) [.d r.d] st = some (.d (.int .i64 (z1c r)), st) := by
 have hrl := hr.1.1
 have hcl := hr.2.1
 unfold LOk at hrl hcl
 have hA : ∀ {i : Nat} (hi : i < r.rels.length) (st : St), z05 G (.fn 145 [] []) [.d (.agg [.sl (r.rels.map RelT.d), .sl (r.clauses.map ClauseT.d)]), .d (.int .i64 i)] st = _ := fun hi st => zxl hr hi st
 have hB : ∀ {i : Nat} (hi : i < r.clauses.length) (st : St), z05 G (.fn 146 [] []) [.d (.agg [.sl (r.rels.map RelT.d), .sl (r.clauses.map ClauseT.d)]), .d (.agg [.str r.clauses[i].rel, .sl (r.clauses[i].head.map PatT.d), .sl (r.clauses[i].body.map PatT.d)])] st = _ := fun hi st => zlw hr (hr.2.2 _ (List.getElem_mem hi)) st
 refine z0f (ds := [r.d]) (rs := [.int .i64 (z1c r)]) T1.g122 rfl rfl (fun e w_len harg => ?_) st
 have w_len : e.length = 53 := w_len
 have w_0 := harg 0 (by simp)
 clear harg
 simp only [List.map_cons, List.map_nil, List.getD_cons_zero] at w_0
 by_cases h1 : (r.rels.length : Int) < 1
 ·simp only [T1.i122, RulesT.d, h1, w_len, w_0, ↓ZA, ZB, simprocAttr]
  exact rq1 (by rw [z1c, if_pos (.inl (.inl h1))])
 by_cases h2 : (8 : Int) < r.rels.length
 ·simp only [T1.i122, RulesT.d, h1, h2, w_len, w_0, ↓ZA, ZB, simprocAttr]
  exact rq1 (by rw [z1c, if_pos (.inl (.inr h2))])
 by_cases h3 : (24 : Int) < r.clauses.length
 ·simp only [T1.i122, RulesT.d, h1, h2, h3, w_len, w_0, ↓ZA, ZB, simprocAttr]
  exact rq1 (by rw [z1c, if_pos (.inr h3)])
 have hS : z1c r = _ := if_neg (fun h => h.elim (fun h => h.elim h1 h2) h3)
 simp only [T1.i122, RulesT.d, h1, h2, h3, w_len, w_0, ↓ZA, ZB, simprocAttr]
 refine z09 (fun e0 s0 m env st => ∃ (i nxi : Nat), m = r.rels.length - i ∧ (i ≤ r.rels.length) ∧ (∀ j, j < i → z1b r j (r.rels.getD j ⟨[], 0, 0⟩) = 0) ∧ env.length = 53 ∧ env.getD 27 .undef = .d (.int .i64 i) ∧ env.getD 1 .undef = .ptr 0 0 ∧ env.getD 26 .undef = .d (.int .i64 r.rels.length) ∧ st = { s := s0.s, next := nxi, low := s0.low }) ?_ (r.rels.length) (by refine ⟨0, _, rfl, by omega, by omega, ?_, ?_, ?_, ?_, rfl⟩ <;> simp only [w_len, ZB, simprocAttr])
 rintro m env st ⟨i, nxi, hm, a_0, a_1, w_len, w_27, w_1, w_26, rfl⟩
 by_cases hi : i < r.rels.length
 ·simp only [hi, hA hi, w_len, w_27, w_1, w_26, ↓ZA, ZB, simprocAttr]
  by_cases he : z1b r i r.rels[i] = 0
  ·simp only [he, z02 hi (by omega), w_len, w_27, ↓ZA, ZB, simprocAttr]
   exact z08 (by refine ⟨_, by omega, i + 1, _, rfl, by omega, zpf a_1 (by rw [z8t hi]; exact he), ?_, ?_, ?_, ?_, rfl⟩ <;> simp only [w_len, w_1, w_26, ZB, simprocAttr])
  ·have he' : z1b r i (r.rels.getD i ⟨[], 0, 0⟩) ≠ 0 := by rw [z8t hi]; exact he
   have hf := zgl (f := fun i => z1b r i (r.rels.getD i ⟨[], 0, 0⟩)) hi a_1 he'
   simp only [he, w_len, ↓ZA, ZB, simprocAttr]
   exact rq1 (by rw [hS, hf, if_pos he', z8t hi])
 ·have hf := zbt (f := fun i => z1b r i (r.rels.getD i ⟨[], 0, 0⟩)) (n := r.rels.length) fun j hj => a_1 j (by omega)
  rw [hf, if_neg (not_not_intro rfl)] at hS
  simp only [hi, w_len, w_27, w_1, w_26, ↓ZA, ZB, simprocAttr]
  refine z09 (fun e0 s0 m env st => ∃ (j nxj lwj : Nat) (sj : List (Nat × Obj)), m = r.clauses.length - j ∧ (j ≤ r.clauses.length) ∧ (∀ c ∈ r.clauses.take j, z17 r c = 0) ∧ sget sj (0) = some (.cells [.d (.sl (r.rels.map RelT.d)), .d (.sl (r.clauses.map ClauseT.d))]) ∧ 1 ≤ nxj ∧ 0 ≤ lwj ∧ env.length = 53 ∧ env.getD 41 .undef = .d (.int .i64 j) ∧ env.getD 1 .undef = .ptr 0 0 ∧ env.getD 39 .undef = .d (.sl (r.clauses.map ClauseT.d)) ∧ env.getD 40 .undef = .d (.int .i64 r.clauses.length) ∧ st = { s := sj, next := nxj, low := lwj }) ?_ (r.clauses.length) (by refine ⟨0, _, _, _, rfl, by omega, by simp, ?_, (by omega), Nat.zero_le _, ?_, ?_, ?_, ?_, ?_, rfl⟩ <;> simp only [w_len, w_1, ZB, simprocAttr])
  rintro m env st ⟨j, nxj, lwj, sj, hm, b_0, b_1, w_bc0, w_bb, w_blo, w_len, w_41, w_1, w_39, w_40, rfl⟩
  have w_bN := cf1 (x := nxj) (a := 0) (by omega)
  have w_bS := cf2 (x := nxj) (by omega) w_bc0
  have w_bZ := zf0 (x := nxj) (n := 1) (by omega)
  by_cases hj : j < r.clauses.length
  ·simp only [hj, z2a hj, hB hj, w_len, w_41, w_1, w_39, w_40, w_bc0, ↓ZA, ZB, simprocAttr]
   by_cases he : z17 r r.clauses[j] = 0
   ·simp only [he, z02 hj (by omega), w_len, w_41, ↓ZA, ZB, simprocAttr]
    exact z08 (by refine ⟨_, by omega, j + 1, _, _, _, rfl, by omega, z55 hj b_1 he, ?_, (by omega), Nat.zero_le _, ?_, ?_, ?_, ?_, ?_, rfl⟩ <;> simp only [w_len, w_1, w_39, w_40, w_bc0, ZB, simprocAttr])
   ·simp only [he, w_len, ↓ZA, ZB, simprocAttr]
    exact rq1 (by rw [hS, z1n hj b_1 he])
  ·simp only [hj, w_len, w_41, w_40, ↓ZA, ZB, simprocAttr]
   exact rq1 (by rw [hS, z1y (z54 hj b_1)])
theorem evTN {l : List NodeT} {p : NodeT → Bool} {fv : V} {s : List (Nat × Obj)} {nx lw : Nat} (hl : l.length ≤ 9223372036854775807) (hc : fv.isCell = true) (hv : cellsV fv = [fv]) (h : TellsT G fv s nx NodeT.d (· ∈ l) p) :
  z05 G (.fn 149 [] []) [.d (.sl (l.map NodeT.d)), fv] { s := s, next := nx, low := lw } = some (.d (.bool (l.all p)), { s := s, next := nx, low := lw }) :=
 z5b (es := 2) (ag := true) T1.g149 T1.g73 T1.g104 (.inl T1.g178) hc hv hl (fun a _ => z3p) h
theorem evTI {l : List Int} {p : Int → Bool} {fv : V} {s : List (Nat × Obj)} {nx lw : Nat} (hl : l.length ≤ 9223372036854775807) (hc : fv.isCell = true) (hv : cellsV fv = [fv]) (h : TellsT G fv s nx (D.int .i64) (· ∈ l) p) :
  z05 G (.fn 154 [] []) [.d (.sl (l.map (D.int .i64))), fv] { s := s, next := nx, low := lw } = some (.d (.bool (l.all p)), { s := s, next := nx, low := lw }) :=
 z5b (es := 1) (ag := false) T1.g154 T1.g179 T1.g190 (.inr T1.g180) hc hv hl (fun a _ => z5o) h
def fewK (x : NodeT) : Bool := decide (x.kids.length ≤ 4)
theorem znf {x : NodeT} (hx : x.ok) (st : St) : z05 G (.fn 150 [] []) [.d x.d] st = some (.d (.bool (fewK x)), st) := by
 have hl := hx.2.1
 unfold LOk at hl
 refine z0f (ds := [x.d]) (rs := [.bool (fewK x)]) T1.g150 rfl rfl (fun e w_len harg => ?_) st
 have w_len : e.length = 7 := w_len
 have w_0 := harg 0 (by simp)
 clear harg
 simp only [List.map_cons, List.map_nil, List.getD_cons_zero] at w_0
 simp only [T1.i150, NodeT.d, w_len, w_0, ↓ZA, ZB, simprocAttr]
 exact rq1 (by simp [fewK]; omega)
theorem zne {x : NodeT} (hx : x.ok) (st : St) : z05 G (.fn 151 [] []) [.d x.d] st = some (.d (.bool (z0x x.name)), st) := by
 have hM := fun st => zm4 hx.1 st
 refine z0f (ds := [x.d]) (rs := [.bool (z0x x.name)]) T1.g151 rfl rfl (fun e w_len harg => ?_) st
 have w_len : e.length = 6 := w_len
 have w_0 := harg 0 (by simp)
 clear harg
 simp only [List.map_cons, List.map_nil, List.getD_cons_zero] at w_0
 simp only [T1.i151, NodeT.d, hM, w_len, w_0, ↓ZA, ZB, simprocAttr]
 exact rq1 (by rfl)
theorem zfl {t : TreeT} {dom : Int → Prop} {s : List (Nat × Obj)} {n0 k : Nat} (hk : k < n0) (ho : sget s k = some (.cells [.d (.sl (t.nodes.map NodeT.d)), .d (.int .i64 t.root)])) : TellsT G (.fn 148 [] [.ptr k 0]) s n0 (D.int .i64) dom (inR t.nodes.length) := by
 intro x _ s' nx lw hs hn
 have ho' : sget s' k = _ := (hs k hk).trans ho
 refine z4p (first := []) (args := [.d (.int .i64 x)]) (cap := [.ptr k 0]) (us := [.d (.bool (inR t.nodes.length x))]) T1.g148 rfl rfl rfl (fun e w_len harg => ?_)
 have w_len : e.length = 13 := w_len
 have w_0 : e.getD 0 .undef = .d (.int .i64 x) := harg 0 (by simp)
 have w_1 : e.getD 1 .undef = .ptr k 0 := harg 1 (by simp)
 clear harg
 by_cases h1 : 0 ≤ x
 ·simp only [T1.i148, ho', h1, w_len, w_0, w_1, ↓ZA, ZB, simprocAttr]
  exact ru1 (by first | exact Nat.le_refl _ | exact z03 (Nat.le_refl _) (by omega) | exact z03 (z03 (Nat.le_refl _) (by omega)) (by omega)) (by simp [inR, h1])
 ·simp only [T1.i148, h1, w_len, w_0, ↓ZA, ZB, simprocAttr]
  exact ru1 (by first | exact Nat.le_refl _ | exact z03 (Nat.le_refl _) (by omega) | exact z03 (z03 (Nat.le_refl _) (by omega)) (by omega)) (by simp [inR, h1])
theorem znd {t : TreeT} {l : List NodeT} (hl : ∀ x ∈ l, x.ok) {s : List (Nat × Obj)} {n0 k j : Nat} (hk : k < n0) (hj : j < n0) (ho : sget s k = some (.cells [.d (.sl (t.nodes.map NodeT.d)), .d (.int .i64 t.root)])) (hf : sget s j = some (.cells [.fn 148 [] [.ptr k 0]])) :
  TellsT G (.fn 153 [] [.ptr j 0]) s n0 NodeT.d (· ∈ l) (fun x => x.kids.all (inR t.nodes.length)) := by
 intro x hx s' nx lw hs hn
 have hkl := (hl x hx).2.1
 unfold LOk at hkl
 have hne : (nx = j) = False := by simp; omega
 have ho' : sget s' k = _ := (hs k hk).trans ho
 have hf' : sget s' j = _ := (hs j hj).trans hf
 have hnk : (nx = k) = False := by simp; omega
 have hkx : k < nx := by omega
 have hC : ∀ s nx lw, sget s k = some (.cells [.d (.sl (t.nodes.map NodeT.d)), .d (.int .i64 t.root)]) → k < nx → z05 G (.fn 154 [] []) [.d (.sl (x.kids.map (D.int .i64))), .fn 148 [] [.ptr k 0]] { s := s, next := nx, low := lw } = some (.d (.bool (x.kids.all (inR t.nodes.length))), { s := s, next := nx, low := lw }) := fun s nx lw h1 h2 =>
  evTI (by omega) rfl rfl (zfl h2 h1)
 refine z4p (first := []) (args := [.d x.d]) (cap := [.ptr j 0]) (us := [.d (.bool (x.kids.all (inR t.nodes.length)))]) T1.g153 rfl rfl rfl (fun e w_len harg => ?_)
 have w_len : e.length = 8 := w_len
 have w_0 : e.getD 0 .undef = .d x.d := harg 0 (by simp)
 have w_1 : e.getD 1 .undef = .ptr j 0 := harg 1 (by simp)
 clear harg
 simp (maxDischargeDepth := 60) only [T1.i153, NodeT.d, hne, hnk, ho', hf', hkx, hC, w_len, w_0, w_1, ↓ZA, ZB, simprocAttr]
 exact ru1 (by first | exact Nat.le_refl _ | exact z03 (Nat.le_refl _) (by omega) | exact z03 (z03 (Nat.le_refl _) (by omega)) (by omega)) rfl
theorem zdz {t : TreeT} (ht : t.ok) (st : St) : z05 G (.fn 124 [] []) [.d t.d] st = some (.d (.int .i64 (z0c t)), st) := by
 have hl := ht.1.1
 unfold LOk at hl
 have hE1 : ∀ st, z05 G (.fn 149 [] []) [.d (.sl (t.nodes.map NodeT.d)), .fn 150 [] []] st = some (.d (.bool (t.nodes.all fewK)), st) := fun st =>
  evTN (by omega) rfl rfl (z2c fun a ha st => znf (ht.1.2 a ha) st)
 have hE2 : ∀ st, z05 G (.fn 149 [] []) [.d (.sl (t.nodes.map NodeT.d)), .fn 151 [] []] st = some (.d (.bool (t.nodes.all fun x => z0x x.name)), st) := fun st =>
  evTN (by omega) rfl rfl (z2c fun a ha st => zne (ht.1.2 a ha) st)
 have hE3 : ∀ s nx lw, sget s 0 = some (.cells [.d (.sl (t.nodes.map NodeT.d)), .d (.int .i64 t.root)]) → sget s 3 = some (.cells [.fn 148 [] [.ptr 0 0]]) → 3 < nx → z05 G (.fn 149 [] []) [.d (.sl (t.nodes.map NodeT.d)), .fn 153 [] [.ptr 3 0]] { s := s, next := nx, low := lw } = some (.d (.bool (t.nodes.all fun x => x.kids.all (inR t.nodes.length))), { s := s, next := nx, low := lw }) := fun s nx lw h1 h2 h3 =>
  evTN (by omega) rfl rfl (znd ht.1.2 (by omega) h3 h1 h2)
 have hC1 : ∀ s nx lw, sget s 0 = some (.cells [.d (.sl (t.nodes.map NodeT.d)), .d (.int .i64 t.root)]) → 0 < nx → z05 G (.fn 148 [] [.ptr 0 0]) [.d (.int .i64 t.root)] { s := s, next := nx, low := lw } = some (.d (.bool (inR t.nodes.length t.root)), { s := s, next := nx, low := lw }) := fun s nx lw h1 h2 =>
  zfl (dom := fun _ => True) h2 h1 _ trivial s nx lw (Sub.refl _ _) (Nat.le_refl _)
 refine z0f (ds := [t.d]) (rs := [.int .i64 (z0c t)]) T1.g124 rfl rfl (fun e w_len harg => ?_) st
 have w_len : e.length = 40 := w_len
 have w_0 := harg 0 (by simp)
 clear harg
 simp only [List.map_cons, List.map_nil, List.getD_cons_zero] at w_0
 by_cases h1 : (t.nodes.length : Int) < 1
 ·simp only [T1.i124, TreeT.d, h1, w_len, w_0, ↓ZA, ZB, simprocAttr]
  exact rq1 (by rw [z0c, if_pos (.inl (.inl h1))])
 by_cases h2 : (60 : Int) < t.nodes.length
 ·simp only [T1.i124, TreeT.d, h1, h2, w_len, w_0, ↓ZA, ZB, simprocAttr]
  exact rq1 (by rw [z0c, if_pos (.inl (.inr h2))])
 cases h3 : t.nodes.all fewK with
 | false =>
  simp only [T1.i124, TreeT.d, h1, h2, hE1, h3, w_len, w_0, ↓ZA, ZB, simprocAttr]
  exact rq1 (by rw [z0c, if_pos (.inr h3)])
 | true =>
  have k1 : ¬ (((t.nodes.length : Int) < 1 ∨ (60 : Int) < t.nodes.length) ∨ t.nodes.all (fun x => decide (x.kids.length ≤ 4)) = false) := fun h => h.elim (fun h => h.elim h1 h2) (by have := h3; unfold fewK at this; rw [this]; simp)
  cases h4 : t.nodes.all fun x => z0x x.name with
  | false =>
   simp only [T1.i124, TreeT.d, h1, h2, hE1, h3, hE2, h4, w_len, w_0, ↓ZA, ZB, simprocAttr]
   exact rq1 (by rw [z0c, if_neg k1, if_pos h4])
  | true =>
   have k2 : ¬ (t.nodes.all fun x => z0x x.name) = false := by rw [h4]; simp
   cases h5 : inR t.nodes.length t.root with
   | false =>
    simp only [T1.i124, TreeT.d, h1, h2, hE1, h3, hE2, h4, hC1, h5, w_len, w_0, ↓ZA, ZB, simprocAttr]
    exact rq1 (by rw [z0c, if_neg k1, if_neg k2, if_pos (.inl h5)])
   | true =>
    cases h6 : t.nodes.all fun x => x.kids.all (inR t.nodes.length) with
    | false =>
     simp only [T1.i124, TreeT.d, h1, h2, hE1, h3, hE2, h4, hC1, h5, hE3, h6, w_len, w_0, ↓ZA, ZB, simprocAttr]
     exact rq1 (by rw [z0c, if_neg k1, if_neg k2, if_pos (.inr h6)])
    | true =>
     simp only [T1.i124, TreeT.d, h1, h2, hE1, h3, hE2, h4, hC1, h5, hE3, h6, w_len, w_0, ↓ZA, ZB, simprocAttr]
     exact rq1 (by rw [z0c, if_neg k1, if_neg k2, if_neg (by rw [h5, h6]; simp)])
end Go.Lift.K
namespace Go.Lift.K
open Go Go.Lift
set_option maxRecDepth 100000
theorem zti {r : RulesT} (hr : r.ok) {g : GoalT} (hg : g.ok) (st : St) : z05 G (.fn 97 [] []) [.d r.d, .d g.d] st = some (.d (.int .i64 (z1m r g)), st) := by
 have hgl := hg.2.1
 unfold LOk at hgl
 have hC : ∀ (st : St), z05 G (.fn 122 [] []) [.d (.agg [.sl (r.rels.map RelT.d), .sl (r.clauses.map ClauseT.d)])] st = _ := fun st => zom hr st
 have hR : ∀ (n : List Nat) (st : St), z05 G (.fn 123 [] []) [.d (.agg [.sl (r.rels.map RelT.d), .sl (r.clauses.map ClauseT.d)]), .d (.str n)] st = _ := fun n st => zb4 hr.1.1 st
 have hT : ∀ {i : Nat} (hi : i < g.args.length) (st : St), z05 G (.fn 124 [] []) [.d (.agg [.sl (g.args[i].nodes.map NodeT.d), .int .i64 g.args[i].root])] st = _ := fun hi st => zdz (hg.2.2 _ (List.getElem_mem hi)) st
 refine z0f (ds := [r.d, g.d]) (rs := [.int .i64 (z1m r g)]) T1.g97 rfl rfl (fun e w_len harg => ?_) st
 have w_len : e.length = 47 := w_len
 have w_0 := harg 0 (by simp)
 have w_1 := harg 1 (by simp)
 clear harg
 simp only [List.map_cons, List.map_nil, List.getD_cons_zero, List.getD_cons_succ] at w_0 w_1
 by_cases h1 : z1c r = 0
 ·have hS : z1m r g = _ := if_neg (not_not_intro h1)
  rcases z4j (p := isR g.rel) (l := r.rels) with ⟨e1, e2⟩ | ⟨n, hn, e1, e2⟩
  ·have hlt : (-1 : Int) < 0 := by omega
   simp only [T1.i97, RulesT.d, GoalT.d, hC, hR, z4y, h1, e1, hlt, w_len, w_0, w_1, ↓ZA, ZB, simprocAttr]
   exact rq1 (by rw [hS, e2])
  ·have hlt : ¬ (n : Int) < 0 := by omega
   simp only [e2] at hS
   by_cases h2 : (g.args.length : Int) = r.rels[n].arity
   ·rw [if_neg (not_not_intro h2)] at hS
    have h2d := h2.symm
    simp only [T1.i97, RulesT.d, GoalT.d, hC, hR, z4y, h1, e1, hlt, z1p hn, h2d, w_len, w_0, w_1, ↓ZA, ZB, simprocAttr]
    refine z09 (fun e0 s0 m env st => ∃ (i nxi lwi : Nat) (si : List (Nat × Obj)), m = g.args.length - i ∧ (i ≤ g.args.length) ∧ (∀ x ∈ g.args.take i, z0c x = 0) ∧ 0 ≤ nxi ∧ 0 ≤ lwi ∧ env.length = 47 ∧ env.getD 37 .undef = .d (.int .i64 i) ∧ env.getD 35 .undef = .d (.sl (g.args.map TreeT.d)) ∧ env.getD 36 .undef = .d (.int .i64 g.args.length) ∧ st = { s := si, next := nxi, low := lwi }) ?_ (g.args.length) (by refine ⟨0, _, _, _, rfl, by omega, by simp, (by omega), Nat.zero_le _, ?_, ?_, ?_, ?_, rfl⟩ <;> simp only [w_len, ZB, simprocAttr])
    rintro m env st ⟨i, nxi, lwi, si, hm, a_0, a_1, w_ab, w_alo, w_len, w_37, w_35, w_36, rfl⟩
    by_cases hi : i < g.args.length
    ·simp only [hi, z19 hi, hT hi, w_len, w_37, w_35, w_36, ↓ZA, ZB, simprocAttr]
     by_cases he : z0c g.args[i] = 0
     ·simp only [he, z02 hi (by omega), w_len, w_37, ↓ZA, ZB, simprocAttr]
      exact z08 (by refine ⟨_, by omega, i + 1, _, _, _, rfl, by omega, z55 hi a_1 he, (by omega), Nat.zero_le _, ?_, ?_, ?_, ?_, rfl⟩ <;> simp only [w_len, w_35, w_36, ZB, simprocAttr])
     ·simp only [he, w_len, ↓ZA, ZB, simprocAttr]
      exact rq1 (by rw [hS, z1n hi a_1 he])
    ·simp only [hi, w_len, w_37, w_36, ↓ZA, ZB, simprocAttr]
     exact rq1 (by rw [hS, z1y (z54 hi a_1)])
   ·rw [if_pos h2] at hS
    simp only [T1.i97, RulesT.d, GoalT.d, hC, hR, z4y, h1, e1, hlt, z1p hn, h2, w_len, w_0, w_1, ↓ZA, ZB, simprocAttr]
    exact rq1 (by rw [hS])
 ·have hS : z1m r g = _ := if_pos h1
  simp only [T1.i97, RulesT.d, GoalT.d, hC, h1, w_len, w_0, w_1, ↓ZA, ZB, simprocAttr]
  exact rq1 (by rw [hS])
end Go.Lift.K
