/- Part B3 of the proof. -/
import Derived.Test.YtgdgkmackccopaaGreatDoorB2
import Derived.Test.YtgdgkmackccopaaGreatDoorA7
set_option linter.all false
namespace Go.Lift.K
open Go Go.Lift
set_option maxRecDepth 100000
end Go.Lift.K
namespace Go.Lift.K
open Go Go.Lift
set_option maxRecDepth 100000
theorem zhq {α : Type} {l : List α} {i : Nat} {x : α} (hi : i < l.length) : l.getD i x = l[i] := by simp [hi]
end Go.Lift.K
namespace Go.Lift.K
open Go Go.Lift
set_option maxRecDepth 100000
theorem zyh {name : List Nat} {l : List RelT} {s : List (Nat × Obj)} {n0 k : Nat} (hk : k < n0) (ho : sget s k = some (.cells [.d (.str name)])) : TellsT G (.fn 81 [] [.ptr k 0]) s n0 RelT.d (· ∈ l) (isR name) := by
 intro x _ s' nx lw hs hn
 have hne : (nx = k) = False := by simp; omega
 have ho' : sget s' k = _ := (hs k hk).trans ho
 refine z5e (first := []) (args := [.d x.d]) (cap := [.ptr k 0]) (us := [.d (.bool (isR name x))]) T1.g81 rfl rfl rfl (fun e w_len harg => ?_)
 have w_len : e.length = 8 := w_len
 have w_0 : e.getD 0 .undef = .d x.d := harg 0 (by simp)
 have w_1 : e.getD 1 .undef = .ptr k 0 := harg 1 (by simp)
 clear harg
 simp only [T1.i81, RelT.d, hne, ho', w_len, w_0, w_1, ↓ZA, ZB, simprocAttr]
 exact ru1 (by first | exact Nat.le_refl _ | exact z01 (Nat.le_refl _) (by omega) | exact z01 (z01 (Nat.le_refl _) (by omega)) (by omega)) rfl
theorem z76 {r : RulesT} (hr : LOk r.rels) {name : List Nat} (st : St) : z06 G (.fn 59 [] []) [.d r.d, .d (.str name)] st = some (.d (.int .i64 (z5g r.rels name)), st) := by
 unfold LOk at hr
 refine z15 (ds := [r.d, .str name]) (rs := [.int .i64 (z5g r.rels name)]) T1.g59 rfl rfl (fun e w_len harg => ?_) st
 have w_len : e.length = 10 := w_len
 have w_0 := harg 0 (by simp)
 have w_1 := harg 1 (by simp)
 clear harg
 simp only [List.map_cons, List.map_nil, List.getD_cons_zero, List.getD_cons_succ] at w_0 w_1
 have hc : ∀ s nx lw, sget s 1 = some (.cells [.d (.str name)]) → 1 < nx → z06 G (.fn 80 [] []) [.d (.sl (r.rels.map RelT.d)), .fn 81 [] [.ptr 1 0]] { s := s, next := nx, low := lw } = _ := fun s nx lw h1 h2 =>
  zhn T1.g80 (by omega) (fun a _ => zhw) (zyh h2 h1)
 simp only [T1.i59, RulesT.d, hc, w_len, w_0, w_1, ↓ZA, ZB, simprocAttr]
 exact rq1 (by rfl)
theorem zyd {r : RulesT} (hr : r.ok) {i : Nat} (hi : i < r.rels.length) (st : St) : z06 G (.fn 90 [] []) [.d r.d, .d (.int .i64 i)] st = some (.d (.int .i64 (z1d r i r.rels[i])), st) := by
 have hx := hr.1.2 _ (List.getElem_mem hi)
 have hN : ∀ (n : List Nat) (st : St), z06 G (.fn 59 [] []) [.d (.agg [.sl (r.rels.map RelT.d), .sl (r.clauses.map ClauseT.d)]), .d (.str n)] st = _ := fun n st => z76 hr.1.1 st
 have hM := fun st => za8 hx.1 st
 refine z15 (ds := [r.d, .int .i64 i]) (rs := [.int .i64 (z1d r i r.rels[i])]) T1.g90 rfl rfl (fun e w_len harg => ?_) st
 have w_len : e.length = 42 := w_len
 have w_0 := harg 0 (by simp)
 have w_1 := harg 1 (by simp)
 clear harg
 simp only [List.map_cons, List.map_nil, List.getD_cons_zero, List.getD_cons_succ] at w_0 w_1
 simp only [T1.i90, RulesT.d, z23 hi, hM, w_len, w_0, w_1, ↓ZA, ZB, simprocAttr]
 cases h1 : z0z r.rels[i].name with
 | false =>
  simp only [w_len, ↓ZA, ZB, simprocAttr]
  exact rq1 (by rw [z1d, if_pos h1])
 | true =>
  have h1' : ¬ z0z r.rels[i].name = false := by simp [h1]
  simp only [w_len, ↓ZA, ZB, simprocAttr]
  by_cases h2 : r.rels[i].arity < 1
  ·simp only [h2, w_len, ↓ZA, ZB, simprocAttr]
   exact rq1 (by rw [z1d, if_neg h1', if_pos (.inl h2)])
  ·by_cases h2' : 3 < r.rels[i].arity
   ·simp only [h2, h2', w_len, ↓ZA, ZB, simprocAttr]
    exact rq1 (by rw [z1d, if_neg h1', if_pos (.inr h2')])
   ·have k2 : ¬ (r.rels[i].arity < 1 ∨ 3 < r.rels[i].arity) := fun h => h.elim h2 h2'
    by_cases h3 : r.rels[i].rank < 0
    ·simp only [h2, h2', h3, w_len, ↓ZA, ZB, simprocAttr]
     exact rq1 (by rw [z1d, if_neg h1', if_neg k2, if_pos (.inl h3)])
    ·by_cases h3' : 3 < r.rels[i].rank
     ·simp only [h2, h2', h3, h3', w_len, ↓ZA, ZB, simprocAttr]
      exact rq1 (by rw [z1d, if_neg h1', if_neg k2, if_pos (.inr h3')])
     ·have k3 : ¬ (r.rels[i].rank < 0 ∨ 3 < r.rels[i].rank) := fun h => h.elim h3 h3'
      by_cases h4 : z5g r.rels r.rels[i].name < i
      ·simp only [h2, h2', h3, h3', hN, h4, w_len, w_1, ↓ZA, ZB, simprocAttr]
       exact rq1 (by rw [z1d, if_neg h1', if_neg k2, if_neg k3, if_pos h4])
      ·simp only [h2, h2', h3, h3', hN, h4, w_len, w_1, ↓ZA, ZB, simprocAttr]
       exact rq1 (by rw [z1d, if_neg h1', if_neg k2, if_neg k3, if_neg h4])
theorem zzo {x : PatT} (hx : x.ok) (st : St) : z06 G (.fn 111 [] []) [.d x.d] st = some (.d (.bool (few x)), st) := by
 have hl := hx.2.1
 unfold LOk at hl
 refine z15 (ds := [x.d]) (rs := [.bool (few x)]) T1.g111 rfl rfl (fun e w_len harg => ?_) st
 have w_len : e.length = 18 := w_len
 have w_0 := harg 0 (by simp)
 clear harg
 simp only [List.map_cons, List.map_nil, List.getD_cons_zero] at w_0
 simp only [T1.i111, PatT.d, w_len, w_0, ↓ZA, ZB, simprocAttr]
 by_cases h1 : (x.vars.length : Int) ≤ 4
 ·have h1' : x.vars.length ≤ 4 := by omega
  by_cases h2 : x.name = []
  ·simp only [h1, h2, w_len, ↓ZA, ZB, simprocAttr]
   exact rq1 (by simp [few, h1', h2]; omega)
  ·simp only [h1, h2, w_len, ↓ZA, ZB, simprocAttr]
   exact rq1 (by simp [few, h1', h2])
 ·have h1' : ¬ x.vars.length ≤ 4 := by omega
  simp only [h1, w_len, ↓ZA, ZB, simprocAttr]
  exact rq1 (by simp [few, h1'])
theorem zpb {l : List (List Nat)} (hl : SsOk l) (st : St) : z06 G (.fn 113 [] []) [.d (.sl (l.map D.str))] st = some (.d (.bool (l.all z0z)), st) := by
 have hll := hl.1
 unfold LOk at hll
 have hE : ∀ s nx lw, z06 G (.fn 114 [] []) [.d (.sl (l.map D.str)), .fn 47 [] []] { s := s, next := nx, low := lw } = _ := fun s nx lw =>
  z4t (enc := D.str) (p := z0z) (es := 1) (ag := false) T1.g114 T1.g130 T1.g140 (.inr T1.g131) rfl rfl (by omega) (fun a _ => .inr ⟨rfl, rfl, rfl⟩) (z3y fun a ha st => za8 (hl.2 a ha) st)
 refine z15 (ds := [.sl (l.map D.str)]) (rs := [.bool (l.all z0z)]) T1.g113 rfl rfl (fun e w_len harg => ?_) st
 have w_len : e.length = 5 := w_len
 have w_0 := harg 0 (by simp)
 clear harg
 simp only [List.map_cons, List.map_nil, List.getD_cons_zero] at w_0
 simp only [T1.i113, hE, w_len, w_0, ↓ZA, ZB, simprocAttr]
 exact rq1 (by rfl)
theorem zym {l : List PatT} (hl : ∀ x ∈ l, x.ok) {s : List (Nat × Obj)} {n0 k : Nat} (hk : k < n0) (ho : sget s k = some (.cells [.fn 113 [] []])) : TellsT G (.fn 115 [] [.ptr k 0]) s n0 PatT.d (· ∈ l) nmd := by
 intro x hx s' nx lw hs hn
 have hne : (nx = k) = False := by simp; omega
 have ho' : sget s' k = _ := (hs k hk).trans ho
 have hM := fun st => za8 (hl x hx).1 st
 have hC := fun st => zpb (hl x hx).2 st
 refine z5e (first := []) (args := [.d x.d]) (cap := [.ptr k 0]) (us := [.d (.bool (nmd x))]) T1.g115 rfl rfl rfl (fun e w_len harg => ?_)
 have w_len : e.length = 18 := w_len
 have w_0 : e.getD 0 .undef = .d x.d := harg 0 (by simp)
 have w_1 : e.getD 1 .undef = .ptr k 0 := harg 1 (by simp)
 clear harg
 by_cases h2 : x.name = []
 ·simp only [T1.i115, PatT.d, hne, ho', hC, h2, w_len, w_0, w_1, ↓ZA, ZB, simprocAttr]
  exact ru1 (by first | exact Nat.le_refl _ | exact z01 (Nat.le_refl _) (by omega) | exact z01 (z01 (Nat.le_refl _) (by omega)) (by omega)) (by simp [nmd, h2])
 ·cases h3 : z0z x.name with
  | true =>
   simp only [T1.i115, PatT.d, hne, ho', hM, hC, h2, h3, w_len, w_0, w_1, ↓ZA, ZB, simprocAttr]
   exact ru1 (by first | exact Nat.le_refl _ | exact z01 (Nat.le_refl _) (by omega) | exact z01 (z01 (Nat.le_refl _) (by omega)) (by omega)) (by simp [nmd, h2, h3])
  | false =>
   simp only [T1.i115, PatT.d, hM, h2, h3, w_len, w_0, ↓ZA, ZB, simprocAttr]
   exact ru1 (by first | exact Nat.le_refl _ | exact z01 (Nat.le_refl _) (by omega) | exact z01 (z01 (Nat.le_refl _) (by omega)) (by omega)) (by simp [nmd, h2, h3])
end Go.Lift.K
namespace Go.Lift.K
open Go Go.Lift
set_option maxRecDepth 100000
theorem zld {l : List PatT} (hl : ∀ x ∈ l, x.ok) {v : List Nat} {s : List (Nat × Obj)} {n0 k : Nat} (hk : k < n0) (ho : sget s k = some (.cells [.d (.str v)])) : TellsT G (.fn 118 [] [.ptr k 0]) s n0 PatT.d (· ∈ l) (fun x => x.vars.any fun y => decide (y = v)) := by
 intro x hx s' nx lw hs hn
 have hne : (nx = k) = False := by simp; omega
 have ho' : sget s' k = _ := (hs k hk).trans ho
 have hxl := (hl x hx).2.1
 unfold LOk at hxl
 have hC : ∀ st, z06 G (.fn 119 [] []) [.d (.sl (x.vars.map D.str)), .d (.str v)] st = some (.d (.bool (x.vars.any fun y => decide (y = v))), st) := fun st => by
  rw [y4e T1.g119 T1.g133 (by simp; omega) (fun y hy => by obtain ⟨a, _, rfl⟩ := List.mem_map.1 hy; rfl) st]
  rw [List.any_map]
  simp only [Function.comp_def, zgt, eq_comm]
 refine z5e (first := []) (args := [.d x.d]) (cap := [.ptr k 0]) (us := [.d (.bool (x.vars.any fun y => decide (y = v)))]) T1.g118 rfl rfl rfl (fun e w_len harg => ?_)
 have w_len : e.length = 8 := w_len
 have w_0 : e.getD 0 .undef = .d x.d := harg 0 (by simp)
 have w_1 : e.getD 1 .undef = .ptr k 0 := harg 1 (by simp)
 clear harg
 simp only [T1.i118, PatT.d, hne, ho', hC, w_len, w_0, w_1, ↓ZA, ZB, simprocAttr]
 exact ru1 (by first | exact Nat.le_refl _ | exact z01 (Nat.le_refl _) (by omega) | exact z01 (z01 (Nat.le_refl _) (by omega)) (by omega)) rfl
theorem znh {c : ClauseT} (hc : zsj c.head) {l : List (List Nat)} {s : List (Nat × Obj)} {n0 k : Nat} (hk : k < n0) (ho : sget s k = some (.cells [.d (.str c.rel), .d (.sl (c.head.map PatT.d)), .d (.sl (c.body.map PatT.d))])) : TellsT G (.fn 116 [] [.ptr k 0]) s n0 D.str (· ∈ l) (z4i c.head) := by
 intro v _ s' nx lw hs hn
 have hne : (nx = k) = False := by simp; omega
 have ho' : sget s' k = _ := (hs k hk).trans ho
 have hl := hc.1
 unfold LOk at hl
 have hC : ∀ s nx' lw, sget s nx = some (.cells [.d (.str v)]) → nx < nx' → z06 G (.fn 117 [] []) [.d (.sl (c.head.map PatT.d)), .fn 118 [] [.ptr nx 0]] { s := s, next := nx', low := lw } = some (.d (.bool (z4i c.head v)), { s := s, next := nx', low := lw }) := fun s nx' lw h1 h2 =>
  zzz (p := fun x : PatT => x.vars.any fun y => decide (y = v)) T1.g117 T1.g132 (by omega) (fun a _ => zdz) (zld hc.2 h2 h1)
 have hlt : nx < nx + 2 + 5 := by omega
 refine z5e (first := []) (args := [.d (.str v)]) (cap := [.ptr k 0]) (us := [.d (.bool (z4i c.head v))]) T1.g116 rfl rfl rfl (fun e w_len harg => ?_)
 have w_len : e.length = 8 := w_len
 have w_0 : e.getD 0 .undef = .d (.str v) := harg 0 (by simp)
 have w_1 : e.getD 1 .undef = .ptr k 0 := harg 1 (by simp)
 clear harg
 simp only [T1.i116, hne, ho', hC, hlt, w_len, w_0, w_1, ↓ZA, ZB, simprocAttr]
 exact ru1 (by first | exact Nat.le_refl _ | exact z01 (Nat.le_refl _) (by omega) | exact z01 (z01 (Nat.le_refl _) (by omega)) (by omega)) rfl
theorem zlq {r : RulesT} (hr : r.ok) {c : ClauseT} (hc : c.ok) (st : St) : z06 G (.fn 91 [] []) [.d r.d, .d c.d] st = some (.d (.int .i64 (z19 r c)), st) := by
 have hrl := hr.1.1
 have hhl := hc.2.1.1
 have hbl := hc.2.2.1
 unfold LOk at hhl hbl
 have hN : ∀ (n : List Nat) (st : St), z06 G (.fn 59 [.d (.agg [.sl (r.rels.map RelT.d), .sl (r.clauses.map ClauseT.d)])] []) [.d (.str n)] st = some (.d (.int .i64 (z5g r.rels n)), st) := fun n st =>
  (zlm T1.g59 rfl rfl rfl).trans (z76 hr.1.1 st)
 have hE1 : ∀ st, z06 G (.fn 112 [] []) [.d (.sl (c.head.map PatT.d)), .fn 111 [] []] st = some (.d (.bool (c.head.all few)), st) := fun st =>
  z4t (enc := PatT.d) (p := few) (es := 2) (ag := true) T1.g112 T1.g117 T1.g132 (.inl T1.g129) rfl rfl (by omega) (fun a _ => zdz) (z3y fun a ha st => zzo (hc.2.1.2 a ha) st)
 have hE2 : ∀ s nx lw k, sget s k = some (.cells [.fn 113 [] []]) → k < nx → z06 G (.fn 112 [] []) [.d (.sl (c.head.map PatT.d)), .fn 115 [] [.ptr k 0]] { s := s, next := nx, low := lw } = some (.d (.bool (c.head.all nmd)), { s := s, next := nx, low := lw }) := fun s nx lw k h1 h2 =>
  z4t (enc := PatT.d) (p := nmd) (es := 2) (ag := true) T1.g112 T1.g117 T1.g132 (.inl T1.g129) rfl rfl (by omega) (fun a _ => zdz) (zym hc.2.1.2 h2 h1)
 refine z15 (ds := [r.d, c.d]) (rs := [.int .i64 (z19 r c)]) T1.g91 rfl rfl (fun e w_len harg => ?_) st
 have w_len : e.length = 84 := w_len
 have w_0 := harg 0 (by simp)
 have w_1 := harg 1 (by simp)
 clear harg
 simp only [List.map_cons, List.map_nil, List.getD_cons_zero, List.getD_cons_succ] at w_0 w_1
 simp only [T1.i91, RulesT.d, ClauseT.d, hN, w_len, w_0, w_1, ↓ZA, ZB, simprocAttr]
 unfold z5g
 rcases z7h (p := isR c.rel) (l := r.rels) with ⟨e1, e2⟩ | ⟨n, hn, e1, e2⟩
 ·have hlt : (-1 : Int) < 0 := by omega
  simp only [e1, hlt, w_len, ↓ZA, ZB, simprocAttr]
  exact rq1 (by rw [z19, e2])
 ·have hlt : ¬ (n : Int) < 0 := by omega
  have hS : z19 r c = if (c.head.length : Int) ≠ r.rels[n].arity ∨ (4 : Int) < c.body.length ∨ c.head.all few = false then 2 else if c.head.all nmd = false then 4 else z0o (z2m r c.head) c.body := by rw [z19, e2]
  by_cases h1 : (c.head.length : Int) = r.rels[n].arity
  ·by_cases h2 : (4 : Int) < c.body.length
   ·simp only [e1, hlt, z23 hn, h1, h2, w_len, ↓ZA, ZB, simprocAttr]
    exact rq1 (by rw [hS, if_pos (.inr (.inl h2))])
   ·cases h3 : c.head.all few with
    | false =>
     simp only [e1, hlt, z23 hn, h1, h2, hE1, h3, w_len, ↓ZA, ZB, simprocAttr]
     exact rq1 (by rw [hS, if_pos (.inr (.inr h3))])
    | true =>
     have k1' : ¬ ((c.head.length : Int) ≠ r.rels[n].arity ∨ (4 : Int) < c.body.length ∨ c.head.all few = false) := by
      rw [h3]
      simp only [h1, h2]
      simp
     rw [if_neg k1'] at hS
     cases h4 : c.head.all nmd with
     | false =>
      simp only [e1, hlt, z23 hn, h1, h2, hE1, h3, hE2, h4, w_len, ↓ZA, ZB, simprocAttr]
      exact rq1 (by rw [hS, if_pos h4])
     | true =>
      rw [if_neg (by rw [h4]; simp)] at hS
      simp only [e1, hlt, z23 hn, h1, h2, hE1, h3, hE2, h4, w_len, ↓ZA, ZB, simprocAttr]
      refine z0e (fun e0 s0 m env st => ∃ (i nxi lwi : Nat) (si : List (Nat × Obj)), m = c.body.length - i ∧ (i ≤ c.body.length) ∧ (∀ a ∈ c.body.take i, z2m r c.head a = 0) ∧ sget si (0) = some (.cells [.d (.sl (r.rels.map RelT.d)), .d (.sl (r.clauses.map ClauseT.d))]) ∧ sget si (1) = some (.cells [.d (.str c.rel), .d (.sl (c.head.map PatT.d)), .d (.sl (c.body.map PatT.d))]) ∧ 2 ≤ nxi ∧ 0 ≤ lwi ∧ env.length = 84 ∧ env.getD 53 .undef = .d (.int .i64 i) ∧ env.getD 2 .undef = .ptr 0 0 ∧ env.getD 3 .undef = .ptr 1 0 ∧ env.getD 5 .undef = .fn 59 [.d (.agg [.sl (r.rels.map RelT.d), .sl (r.clauses.map ClauseT.d)])] [] ∧ env.getD 51 .undef = .d (.sl (c.body.map PatT.d)) ∧ env.getD 52 .undef = .d (.int .i64 c.body.length) ∧ st = { s := si, next := nxi, low := lwi }) ?_ (c.body.length) (by refine ⟨0, _, _, _, rfl, by omega, by simp, ?_, ?_, (by omega), Nat.zero_le _, ?_, ?_, ?_, ?_, ?_, ?_, ?_, rfl⟩ <;> simp only [w_len, ZB, simprocAttr])
      rintro m env st ⟨i, nxi, lwi, si, hm, b_0, b_1, w_bc0, w_bc1, w_bb, w_blo, w_len, w_53, w_2, w_3, w_5, w_51, w_52, rfl⟩
      have w_bN := aI (cf1 (x := nxi) (a := 0) (by omega)) (cf1 (x := nxi) (a := 1) (by omega))
      have w_bS := aI (cf2 (x := nxi) (by omega) w_bc0) (cf2 (x := nxi) (by omega) w_bc1)
      have w_bZ := zf0 (x := nxi) (n := 2) (by omega)
      by_cases hi : i < c.body.length
      ·have hal := hc.2.2.2 _ (List.getElem_mem hi)
       have hall := hal.2.1
       unfold LOk at hall
       rcases z7h (p := isR c.body[i].name) (l := r.rels) with ⟨f1, f2⟩ | ⟨m, hm', f1, f2⟩
       ·have hA : z2m r c.head c.body[i] = 1 := by rw [z2m, f2]
        have hlt : (-1 : Int) < 0 := by omega
        simp only [hi, z4q hi, hN, z5g, f1, hlt, w_len, w_53, w_3, w_5, w_51, w_52, ↓ZA, ZB, simprocAttr]
        exact rq1 (by rw [hS, z2p hi b_1 (by rw [hA]; omega), hA])
       ·have hA : z2m r c.head c.body[i] = if (c.body[i].vars.length : Int) ≠ r.rels[m].arity then 2 else if c.body[i].vars.all (z4i c.head) = false then 6 else 0 := by rw [z2m, f2]
        have hlt : ¬ (m : Int) < 0 := by omega
        by_cases h7 : (c.body[i].vars.length : Int) = r.rels[m].arity
        ·have hE3 : ∀ s nx lw, sget s 1 = some (.cells [.d (.str c.rel), .d (.sl (c.head.map PatT.d)), .d (.sl (c.body.map PatT.d))]) → 1 < nx → z06 G (.fn 114 [] []) [.d (.sl (c.body[i].vars.map D.str)), .fn 116 [] [.ptr 1 0]] { s := s, next := nx, low := lw } = some (.d (.bool (c.body[i].vars.all (z4i c.head))), { s := s, next := nx, low := lw }) := fun s nx lw h1 h2 =>
          z4t (enc := D.str) (p := z4i c.head) (es := 1) (ag := false) T1.g114 T1.g130 T1.g140 (.inr T1.g131) rfl rfl (by omega) (fun a _ => .inr ⟨rfl, rfl, rfl⟩) (znh hc.2.1 h2 h1)
         rw [if_neg (not_not_intro h7)] at hA
         have h12 : ∀ a, 1 < nxi + (a + 2) := fun a => by omega
         cases h8 : c.body[i].vars.all (z4i c.head) with
         | false =>
          rw [if_pos h8] at hA
          simp (maxDischargeDepth := 60) only [hi, z4q hi, z23 hm', hN, z5g, f1, hlt, h7, hE3, h8, w_len, w_53, w_2, w_3, w_5, w_51, w_52, w_bc0, w_bc1, w_bS, ↓ZA, ZB, simprocAttr]
          exact rq1 (by rw [hS, z2p hi b_1 (by rw [hA]; omega), hA])
         | true =>
          rw [if_neg (by rw [h8]; simp)] at hA
          simp (maxDischargeDepth := 60) only [hi, z4q hi, z23 hm', hN, z5g, f1, hlt, h7, hE3, h8, z08 hi (by omega), w_len, w_53, w_2, w_3, w_5, w_51, w_52, w_bc0, w_bc1, w_bS, ↓ZA, ZB, simprocAttr]
          exact z0c (by refine ⟨_, by omega, i + 1, _, _, _, rfl, by omega, z9s hi b_1 hA, ?_, ?_, (by omega), Nat.zero_le _, ?_, ?_, ?_, ?_, ?_, ?_, ?_, rfl⟩ <;> simp (maxDischargeDepth := 60) only [w_len, w_2, w_3, w_5, w_51, w_52, w_bc0, w_bc1, ZB, simprocAttr])
        ·rw [if_pos h7] at hA
         simp only [hi, z4q hi, z23 hm', hN, z5g, f1, hlt, h7, w_len, w_53, w_2, w_3, w_5, w_51, w_52, w_bc0, ↓ZA, ZB, simprocAttr]
         exact rq1 (by rw [hS, z2p hi b_1 (by rw [hA]; omega), hA])
      ·simp only [hi, w_len, w_53, w_52, ↓ZA, ZB, simprocAttr]
       exact rq1 (by rw [hS, z1a (z9r hi b_1)])
  ·simp only [e1, hlt, z23 hn, h1, w_len, ↓ZA, ZB, simprocAttr]
   exact rq1 (by rw [hS, if_pos (.inl h1)])
end Go.Lift.K
namespace Go.Lift.K
open Go Go.Lift
set_option maxRecDepth 100000
theorem zoo {r : RulesT} (hr : r.ok) (st : St) : z06 G (.fn 64 [] []) [.d r.d] st = some (.d (.int .i64 (z0v r)), st) := by
 have hrl := hr.1.1
 have hcl := hr.2.1
 unfold LOk at hrl hcl
 have hA : ∀ {i : Nat} (hi : i < r.rels.length) (st : St), z06 G (.fn 90 [] []) [.d (.agg [.sl (r.rels.map RelT.d), .sl (r.clauses.map ClauseT.d)]), .d (.int .i64 i)] st = _ := fun hi st => zyd hr hi st
 have hB : ∀ {i : Nat} (hi : i < r.clauses.length) (st : St), z06 G (.fn 91 [] []) [.d (.agg [.sl (r.rels.map RelT.d), .sl (r.clauses.map ClauseT.d)]), .d (.agg [.str r.clauses[i].rel, .sl (r.clauses[i].head.map PatT.d), .sl (r.clauses[i].body.map PatT.d)])] st = _ := fun hi st => zlq hr (hr.2.2 _ (List.getElem_mem hi)) st
 refine z15 (ds := [r.d]) (rs := [.int .i64 (z0v r)]) T1.g64 rfl rfl (fun e w_len harg => ?_) st
 have w_len : e.length = 53 := w_len
 have w_0 := harg 0 (by simp)
 clear harg
 simp only [List.map_cons, List.map_nil, List.getD_cons_zero] at w_0
 by_cases h1 : (r.rels.length : Int) < 1
 ·simp only [T1.i64, RulesT.d, h1, w_len, w_0, ↓ZA, ZB, simprocAttr]
  exact rq1 (by rw [z0v, if_pos (.inl (.inl h1))])
 by_cases h2 : (8 : Int) < r.rels.length
 ·simp only [T1.i64, RulesT.d, h1, h2, w_len, w_0, ↓ZA, ZB, simprocAttr]
  exact rq1 (by rw [z0v, if_pos (.inl (.inr h2))])
 by_cases h3 : (24 : Int) < r.clauses.length
 ·simp only [T1.i64, RulesT.d, h1, h2, h3, w_len, w_0, ↓ZA, ZB, simprocAttr]
  exact rq1 (by rw [z0v, if_pos (.inr h3)])
 have hS : z0v r = _ := if_neg (fun h => h.elim (fun h => h.elim h1 h2) h3)
 simp only [T1.i64, RulesT.d, h1, h2, h3, w_len, w_0, ↓ZA, ZB, simprocAttr]
 refine z0e (fun e0 s0 m env st => ∃ (i nxi : Nat), m = r.rels.length - i ∧ (i ≤ r.rels.length) ∧ (∀ j, j < i → z1d r j (r.rels.getD j ⟨[], 0, 0⟩) = 0) ∧ env.length = 53 ∧ env.getD 27 .undef = .d (.int .i64 i) ∧ env.getD 1 .undef = .ptr 0 0 ∧ env.getD 26 .undef = .d (.int .i64 r.rels.length) ∧ st = { s := s0.s, next := nxi, low := s0.low }) ?_ (r.rels.length) (by refine ⟨0, _, rfl, by omega, by omega, ?_, ?_, ?_, ?_, rfl⟩ <;> simp only [w_len, ZB, simprocAttr])
 rintro m env st ⟨i, nxi, hm, a_0, a_1, w_len, w_27, w_1, w_26, rfl⟩
 by_cases hi : i < r.rels.length
 ·simp only [hi, hA hi, w_len, w_27, w_1, w_26, ↓ZA, ZB, simprocAttr]
  by_cases he : z1d r i r.rels[i] = 0
  ·simp only [he, z08 hi (by omega), w_len, w_27, ↓ZA, ZB, simprocAttr]
   exact z0c (by refine ⟨_, by omega, i + 1, _, rfl, by omega, zyw a_1 (by rw [zhq hi]; exact he), ?_, ?_, ?_, ?_, rfl⟩ <;> simp only [w_len, w_1, w_26, ZB, simprocAttr])
  ·have he' : z1d r i (r.rels.getD i ⟨[], 0, 0⟩) ≠ 0 := by rw [zhq hi]; exact he
   have hf := zqy (f := fun i => z1d r i (r.rels.getD i ⟨[], 0, 0⟩)) hi a_1 he'
   simp only [he, w_len, ↓ZA, ZB, simprocAttr]
   exact rq1 (by rw [hS, hf, if_pos he', zhq hi])
 ·have hf := zax (f := fun i => z1d r i (r.rels.getD i ⟨[], 0, 0⟩)) (n := r.rels.length) fun j hj => a_1 j (by omega)
  rw [hf, if_neg (not_not_intro rfl)] at hS
  simp only [hi, w_len, w_27, w_1, w_26, ↓ZA, ZB, simprocAttr]
  refine z0e (fun e0 s0 m env st => ∃ (j nxj lwj : Nat) (sj : List (Nat × Obj)), m = r.clauses.length - j ∧ (j ≤ r.clauses.length) ∧ (∀ c ∈ r.clauses.take j, z19 r c = 0) ∧ sget sj (0) = some (.cells [.d (.sl (r.rels.map RelT.d)), .d (.sl (r.clauses.map ClauseT.d))]) ∧ 1 ≤ nxj ∧ 0 ≤ lwj ∧ env.length = 53 ∧ env.getD 41 .undef = .d (.int .i64 j) ∧ env.getD 1 .undef = .ptr 0 0 ∧ env.getD 39 .undef = .d (.sl (r.clauses.map ClauseT.d)) ∧ env.getD 40 .undef = .d (.int .i64 r.clauses.length) ∧ st = { s := sj, next := nxj, low := lwj }) ?_ (r.clauses.length) (by refine ⟨0, _, _, _, rfl, by omega, by simp, ?_, (by omega), Nat.zero_le _, ?_, ?_, ?_, ?_, ?_, rfl⟩ <;> simp only [w_len, w_1, ZB, simprocAttr])
  rintro m env st ⟨j, nxj, lwj, sj, hm, b_0, b_1, w_bc0, w_bb, w_blo, w_len, w_41, w_1, w_39, w_40, rfl⟩
  have w_bN := cf1 (x := nxj) (a := 0) (by omega)
  have w_bS := cf2 (x := nxj) (by omega) w_bc0
  have w_bZ := zf0 (x := nxj) (n := 1) (by omega)
  by_cases hj : j < r.clauses.length
  ·simp only [hj, z5m hj, hB hj, w_len, w_41, w_1, w_39, w_40, w_bc0, ↓ZA, ZB, simprocAttr]
   by_cases he : z19 r r.clauses[j] = 0
   ·simp only [he, z08 hj (by omega), w_len, w_41, ↓ZA, ZB, simprocAttr]
    exact z0c (by refine ⟨_, by omega, j + 1, _, _, _, rfl, by omega, z9s hj b_1 he, ?_, (by omega), Nat.zero_le _, ?_, ?_, ?_, ?_, ?_, rfl⟩ <;> simp only [w_len, w_1, w_39, w_40, w_bc0, ZB, simprocAttr])
   ·simp only [he, w_len, ↓ZA, ZB, simprocAttr]
    exact rq1 (by rw [hS, z2p hj b_1 he])
  ·simp only [hj, w_len, w_41, w_40, ↓ZA, ZB, simprocAttr]
   exact rq1 (by rw [hS, z1a (z9r hj b_1)])
theorem evTN {l : List NodeT} {p : NodeT → Bool} {fv : V} {s : List (Nat × Obj)} {nx lw : Nat} (hl : l.length ≤ 9223372036854775807) (hc : fv.isCell = true) (hv : cellsV fv = [fv]) (h : TellsT G fv s nx NodeT.d (· ∈ l) p) :
  z06 G (.fn 93 [] []) [.d (.sl (l.map NodeT.d)), fv] { s := s, next := nx, low := lw } = some (.d (.bool (l.all p)), { s := s, next := nx, low := lw }) :=
 z4t (es := 2) (ag := true) T1.g93 T1.g120 T1.g134 (.inl T1.g121) hc hv hl (fun a _ => z9b) h
theorem evTI {l : List Int} {p : Int → Bool} {fv : V} {s : List (Nat × Obj)} {nx lw : Nat} (hl : l.length ≤ 9223372036854775807) (hc : fv.isCell = true) (hv : cellsV fv = [fv]) (h : TellsT G fv s nx (D.int .i64) (· ∈ l) p) :
  z06 G (.fn 98 [] []) [.d (.sl (l.map (D.int .i64))), fv] { s := s, next := nx, low := lw } = some (.d (.bool (l.all p)), { s := s, next := nx, low := lw }) :=
 z4t (es := 1) (ag := false) T1.g98 T1.g122 T1.g135 (.inr T1.g123) hc hv hl (fun a _ => zb2) h
def fewK (x : NodeT) : Bool := decide (x.kids.length ≤ 4)
theorem znc {x : NodeT} (hx : x.ok) (st : St) : z06 G (.fn 94 [] []) [.d x.d] st = some (.d (.bool (fewK x)), st) := by
 have hl := hx.2.1
 unfold LOk at hl
 refine z15 (ds := [x.d]) (rs := [.bool (fewK x)]) T1.g94 rfl rfl (fun e w_len harg => ?_) st
 have w_len : e.length = 7 := w_len
 have w_0 := harg 0 (by simp)
 clear harg
 simp only [List.map_cons, List.map_nil, List.getD_cons_zero] at w_0
 simp only [T1.i94, NodeT.d, w_len, w_0, ↓ZA, ZB, simprocAttr]
 exact rq1 (by simp [fewK]; omega)
theorem znb {x : NodeT} (hx : x.ok) (st : St) : z06 G (.fn 95 [] []) [.d x.d] st = some (.d (.bool (z0z x.name)), st) := by
 have hM := fun st => zlw hx.1 st
 refine z15 (ds := [x.d]) (rs := [.bool (z0z x.name)]) T1.g95 rfl rfl (fun e w_len harg => ?_) st
 have w_len : e.length = 6 := w_len
 have w_0 := harg 0 (by simp)
 clear harg
 simp only [List.map_cons, List.map_nil, List.getD_cons_zero] at w_0
 simp only [T1.i95, NodeT.d, hM, w_len, w_0, ↓ZA, ZB, simprocAttr]
 exact rq1 (by rfl)
theorem zet {t : TreeT} {dom : Int → Prop} {s : List (Nat × Obj)} {n0 k : Nat} (hk : k < n0) (ho : sget s k = some (.cells [.d (.sl (t.nodes.map NodeT.d)), .d (.int .i64 t.root)])) : TellsT G (.fn 92 [] [.ptr k 0]) s n0 (D.int .i64) dom (inR t.nodes.length) := by
 intro x _ s' nx lw hs hn
 have ho' : sget s' k = _ := (hs k hk).trans ho
 refine z5e (first := []) (args := [.d (.int .i64 x)]) (cap := [.ptr k 0]) (us := [.d (.bool (inR t.nodes.length x))]) T1.g92 rfl rfl rfl (fun e w_len harg => ?_)
 have w_len : e.length = 13 := w_len
 have w_0 : e.getD 0 .undef = .d (.int .i64 x) := harg 0 (by simp)
 have w_1 : e.getD 1 .undef = .ptr k 0 := harg 1 (by simp)
 clear harg
 by_cases h1 : 0 ≤ x
 ·simp only [T1.i92, ho', h1, w_len, w_0, w_1, ↓ZA, ZB, simprocAttr]
  exact ru1 (by first | exact Nat.le_refl _ | exact z01 (Nat.le_refl _) (by omega) | exact z01 (z01 (Nat.le_refl _) (by omega)) (by omega)) (by simp [inR, h1])
 ·simp only [T1.i92, h1, w_len, w_0, ↓ZA, ZB, simprocAttr]
  exact ru1 (by first | exact Nat.le_refl _ | exact z01 (Nat.le_refl _) (by omega) | exact z01 (z01 (Nat.le_refl _) (by omega)) (by omega)) (by simp [inR, h1])
theorem zna {t : TreeT} {l : List NodeT} (hl : ∀ x ∈ l, x.ok) {s : List (Nat × Obj)} {n0 k j : Nat} (hk : k < n0) (hj : j < n0) (ho : sget s k = some (.cells [.d (.sl (t.nodes.map NodeT.d)), .d (.int .i64 t.root)])) (hf : sget s j = some (.cells [.fn 92 [] [.ptr k 0]])) :
  TellsT G (.fn 97 [] [.ptr j 0]) s n0 NodeT.d (· ∈ l) (fun x => x.kids.all (inR t.nodes.length)) := by
 intro x hx s' nx lw hs hn
 have hkl := (hl x hx).2.1
 unfold LOk at hkl
 have hne : (nx = j) = False := by simp; omega
 have ho' : sget s' k = _ := (hs k hk).trans ho
 have hf' : sget s' j = _ := (hs j hj).trans hf
 have hnk : (nx = k) = False := by simp; omega
 have hkx : k < nx := by omega
 have hC : ∀ s nx lw, sget s k = some (.cells [.d (.sl (t.nodes.map NodeT.d)), .d (.int .i64 t.root)]) → k < nx → z06 G (.fn 98 [] []) [.d (.sl (x.kids.map (D.int .i64))), .fn 92 [] [.ptr k 0]] { s := s, next := nx, low := lw } = some (.d (.bool (x.kids.all (inR t.nodes.length))), { s := s, next := nx, low := lw }) := fun s nx lw h1 h2 =>
  evTI (by omega) rfl rfl (zet h2 h1)
 refine z5e (first := []) (args := [.d x.d]) (cap := [.ptr j 0]) (us := [.d (.bool (x.kids.all (inR t.nodes.length)))]) T1.g97 rfl rfl rfl (fun e w_len harg => ?_)
 have w_len : e.length = 8 := w_len
 have w_0 : e.getD 0 .undef = .d x.d := harg 0 (by simp)
 have w_1 : e.getD 1 .undef = .ptr j 0 := harg 1 (by simp)
 clear harg
 simp (maxDischargeDepth := 60) only [T1.i97, NodeT.d, hne, hnk, ho', hf', hkx, hC, w_len, w_0, w_1, ↓ZA, ZB, simprocAttr]
 exact ru1 (by first | exact Nat.le_refl _ | exact z01 (Nat.le_refl _) (by omega) | exact z01 (z01 (Nat.le_refl _) (by omega)) (by omega)) rfl
theorem zd7 {t : TreeT} (ht : t.ok) (st : St) : z06 G (.fn 65 [] []) [.d t.d] st = some (.d (.int .i64 (z0b t)), st) := by
 have hl := ht.1.1
 unfold LOk at hl
 have hE1 : ∀ st, z06 G (.fn 93 [] []) [.d (.sl (t.nodes.map NodeT.d)), .fn 94 [] []] st = some (.d (.bool (t.nodes.all fewK)), st) := fun st =>
  evTN (by omega) rfl rfl (z3y fun a ha st => znc (ht.1.2 a ha) st)
 have hE2 : ∀ st, z06 G (.fn 93 [] []) [.d (.sl (t.nodes.map NodeT.d)), .fn 95 [] []] st = some (.d (.bool (t.nodes.all fun x => z0z x.name)), st) := fun st =>
  evTN (by omega) rfl rfl (z3y fun a ha st => znb (ht.1.2 a ha) st)
 have hE3 : ∀ s nx lw, sget s 0 = some (.cells [.d (.sl (t.nodes.map NodeT.d)), .d (.int .i64 t.root)]) → sget s 3 = some (.cells [.fn 92 [] [.ptr 0 0]]) → 3 < nx → z06 G (.fn 93 [] []) [.d (.sl (t.nodes.map NodeT.d)), .fn 97 [] [.ptr 3 0]] { s := s, next := nx, low := lw } = some (.d (.bool (t.nodes.all fun x => x.kids.all (inR t.nodes.length))), { s := s, next := nx, low := lw }) := fun s nx lw h1 h2 h3 =>
  evTN (by omega) rfl rfl (zna ht.1.2 (by omega) h3 h1 h2)
 have hC1 : ∀ s nx lw, sget s 0 = some (.cells [.d (.sl (t.nodes.map NodeT.d)), .d (.int .i64 t.root)]) → 0 < nx → z06 G (.fn 92 [] [.ptr 0 0]) [.d (.int .i64 t.root)] { s := s, next := nx, low := lw } = some (.d (.bool (inR t.nodes.length t.root)), { s := s, next := nx, low := lw }) := fun s nx lw h1 h2 =>
  zet (dom := fun _ => True) h2 h1 _ trivial s nx lw (Sub.refl _ _) (Nat.le_refl _)
 refine z15 (ds := [t.d]) (rs := [.int .i64 (z0b t)]) T1.g65 rfl rfl (fun e w_len harg => ?_) st
 have w_len : e.length = 40 := w_len
 have w_0 := harg 0 (by simp)
 clear harg
 simp only [List.map_cons, List.map_nil, List.getD_cons_zero] at w_0
 by_cases h1 : (t.nodes.length : Int) < 1
 ·simp only [T1.i65, TreeT.d, h1, w_len, w_0, ↓ZA, ZB, simprocAttr]
  exact rq1 (by rw [z0b, if_pos (.inl (.inl h1))])
 by_cases h2 : (60 : Int) < t.nodes.length
 ·simp only [T1.i65, TreeT.d, h1, h2, w_len, w_0, ↓ZA, ZB, simprocAttr]
  exact rq1 (by rw [z0b, if_pos (.inl (.inr h2))])
 cases h3 : t.nodes.all fewK with
 | false =>
  simp only [T1.i65, TreeT.d, h1, h2, hE1, h3, w_len, w_0, ↓ZA, ZB, simprocAttr]
  exact rq1 (by rw [z0b, if_pos (.inr h3)])
 | true =>
  have k1 : ¬ (((t.nodes.length : Int) < 1 ∨ (60 : Int) < t.nodes.length) ∨ t.nodes.all (fun x => decide (x.kids.length ≤ 4)) = false) := fun h => h.elim (fun h => h.elim h1 h2) (by have := h3; unfold fewK at this; rw [this]; simp)
  cases h4 : t.nodes.all fun x => z0z x.name with
  | false =>
   simp only [T1.i65, TreeT.d, h1, h2, hE1, h3, hE2, h4, w_len, w_0, ↓ZA, ZB, simprocAttr]
   exact rq1 (by rw [z0b, if_neg k1, if_pos h4])
  | true =>
   have k2 : ¬ (t.nodes.all fun x => z0z x.name) = false := by rw [h4]; simp
   cases h5 : inR t.nodes.length t.root with
   | false =>
    simp only [T1.i65, TreeT.d, h1, h2, hE1, h3, hE2, h4, hC1, h5, w_len, w_0, ↓ZA, ZB, simprocAttr]
    exact rq1 (by rw [z0b, if_neg k1, if_neg k2, if_pos (.inl h5)])
   | true =>
    cases h6 : t.nodes.all fun x => x.kids.all (inR t.nodes.length) with
    | false =>
     simp only [T1.i65, TreeT.d, h1, h2, hE1, h3, hE2, h4, hC1, h5, hE3, h6, w_len, w_0, ↓ZA, ZB, simprocAttr]
     exact rq1 (by rw [z0b, if_neg k1, if_neg k2, if_pos (.inr h6)])
    | true =>
     simp only [T1.i65, TreeT.d, h1, h2, hE1, h3, hE2, h4, hC1, h5, hE3, h6, w_len, w_0, ↓ZA, ZB, simprocAttr]
     exact rq1 (by rw [z0b, if_neg k1, if_neg k2, if_neg (by rw [h5, h6]; simp)])
end Go.Lift.K
namespace Go.Lift.K
open Go Go.Lift
set_option maxRecDepth 100000
theorem zj8 {r : RulesT} (hr : r.ok) {g : GoalT} (hg : g.ok) (st : St) : z06 G (.fn 41 [] []) [.d r.d, .d g.d] st = some (.d (.int .i64 (z0w r g)), st) := by
 have hgl := hg.2.1
 unfold LOk at hgl
 have hC : ∀ (st : St), z06 G (.fn 64 [] []) [.d (.agg [.sl (r.rels.map RelT.d), .sl (r.clauses.map ClauseT.d)])] st = _ := fun st => zoo hr st
 have hR : ∀ (n : List Nat) (st : St), z06 G (.fn 59 [] []) [.d (.agg [.sl (r.rels.map RelT.d), .sl (r.clauses.map ClauseT.d)]), .d (.str n)] st = _ := fun n st => z76 hr.1.1 st
 have hT : ∀ {i : Nat} (hi : i < g.args.length) (st : St), z06 G (.fn 65 [] []) [.d (.agg [.sl (g.args[i].nodes.map NodeT.d), .int .i64 g.args[i].root])] st = _ := fun hi st => zd7 (hg.2.2 _ (List.getElem_mem hi)) st
 refine z15 (ds := [r.d, g.d]) (rs := [.int .i64 (z0w r g)]) T1.g41 rfl rfl (fun e w_len harg => ?_) st
 have w_len : e.length = 47 := w_len
 have w_0 := harg 0 (by simp)
 have w_1 := harg 1 (by simp)
 clear harg
 simp only [List.map_cons, List.map_nil, List.getD_cons_zero, List.getD_cons_succ] at w_0 w_1
 by_cases h1 : z0v r = 0
 ·have hS : z0w r g = _ := if_neg (not_not_intro h1)
  rcases z7h (p := isR g.rel) (l := r.rels) with ⟨e1, e2⟩ | ⟨n, hn, e1, e2⟩
  ·have hlt : (-1 : Int) < 0 := by omega
   simp only [T1.i41, RulesT.d, GoalT.d, hC, hR, z5g, h1, e1, hlt, w_len, w_0, w_1, ↓ZA, ZB, simprocAttr]
   exact rq1 (by rw [hS, e2])
  ·have hlt : ¬ (n : Int) < 0 := by omega
   simp only [e2] at hS
   by_cases h2 : (g.args.length : Int) = r.rels[n].arity
   ·rw [if_neg (not_not_intro h2)] at hS
    have h2d := h2.symm
    simp only [T1.i41, RulesT.d, GoalT.d, hC, hR, z5g, h1, e1, hlt, z23 hn, h2d, w_len, w_0, w_1, ↓ZA, ZB, simprocAttr]
    refine z0e (fun e0 s0 m env st => ∃ (i nxi lwi : Nat) (si : List (Nat × Obj)), m = g.args.length - i ∧ (i ≤ g.args.length) ∧ (∀ x ∈ g.args.take i, z0b x = 0) ∧ 0 ≤ nxi ∧ 0 ≤ lwi ∧ env.length = 47 ∧ env.getD 37 .undef = .d (.int .i64 i) ∧ env.getD 35 .undef = .d (.sl (g.args.map TreeT.d)) ∧ env.getD 36 .undef = .d (.int .i64 g.args.length) ∧ st = { s := si, next := nxi, low := lwi }) ?_ (g.args.length) (by refine ⟨0, _, _, _, rfl, by omega, by simp, (by omega), Nat.zero_le _, ?_, ?_, ?_, ?_, rfl⟩ <;> simp only [w_len, ZB, simprocAttr])
    rintro m env st ⟨i, nxi, lwi, si, hm, a_0, a_1, w_ab, w_alo, w_len, w_37, w_35, w_36, rfl⟩
    by_cases hi : i < g.args.length
    ·simp only [hi, z4p hi, hT hi, w_len, w_37, w_35, w_36, ↓ZA, ZB, simprocAttr]
     by_cases he : z0b g.args[i] = 0
     ·simp only [he, z08 hi (by omega), w_len, w_37, ↓ZA, ZB, simprocAttr]
      exact z0c (by refine ⟨_, by omega, i + 1, _, _, _, rfl, by omega, z9s hi a_1 he, (by omega), Nat.zero_le _, ?_, ?_, ?_, ?_, rfl⟩ <;> simp only [w_len, w_35, w_36, ZB, simprocAttr])
     ·simp only [he, w_len, ↓ZA, ZB, simprocAttr]
      exact rq1 (by rw [hS, z2p hi a_1 he])
    ·simp only [hi, w_len, w_37, w_36, ↓ZA, ZB, simprocAttr]
     exact rq1 (by rw [hS, z1a (z9r hi a_1)])
   ·rw [if_pos h2] at hS
    simp only [T1.i41, RulesT.d, GoalT.d, hC, hR, z5g, h1, e1, hlt, z23 hn, h2, w_len, w_0, w_1, ↓ZA, ZB, simprocAttr]
    exact rq1 (by rw [hS])
 ·have hS : z0w r g = _ := if_pos h1
  simp only [T1.i41, RulesT.d, GoalT.d, hC, h1, w_len, w_0, w_1, ↓ZA, ZB, simprocAttr]
  exact rq1 (by rw [hS])
end Go.Lift.K
