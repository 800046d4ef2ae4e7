/- Part B4 of the proof. -/
import Derived.Test.YtgifbdpjlibbdaaGreatDoorB3
import Derived.Test.YtgifbdpjlibbdaaGreatDoorA7
set_option linter.all false
namespace Go.Lift.K
open Go Go.Lift
set_option maxRecDepth 100000
end Go.Lift.K
namespace Go.Lift.K
open Go Go.Lift
set_option maxRecDepth 100000
theorem zjm {x : List Nat} (h : z0x x = true) : x.length ≤ 8 := by
 simp [z0x] at h
 omega
end Go.Lift.K
namespace Go.Lift.K
open Go Go.Lift
set_option maxRecDepth 100000
def z4i (s : List Nat) : Bool := decide ((40 : Int) < s.length)
def zi7 (l : List (List Nat)) : Bool := decide ((9 : Int) < l.length) || l.any z4i
def bigP (x : PatT) : Bool := z4i x.name || zi7 x.vars
def bigC (c : ClauseT) : Bool := z4i c.rel || decide ((6 : Int) < c.head.length) || decide ((8 : Int) < c.body.length) || c.head.any bigP || c.body.any bigP
def bigR (x : RelT) : Bool := z4i x.name
def z22 (r : RulesT) : Bool := decide ((12 : Int) < r.rels.length) || decide ((30 : Int) < r.clauses.length) || r.rels.any bigR || r.clauses.any bigC
def z7w (x : NodeT) : Bool := decide ((12 : Int) < x.kids.length) || z4i x.name
def z7v (t : TreeT) : Bool := decide ((68 : Int) < t.nodes.length) || t.nodes.any z7w
def sumW (l : List TreeT) : Int := l.foldl (fun n t => IntKind.i64.wrap (n + t.nodes.length)) 0
def z2y (g : GoalT) : Bool := z4i g.rel || decide ((6 : Int) < g.args.length) || decide ((90 : Int) < sumW g.args) || g.args.any z7v
theorem cnS {l : List (List Nat)} {p : List Nat → Bool} {fv : V} (hl : LOk l) (h : ∀ s nx, TellsT G fv s nx D.str (· ∈ l) p) (st : St) : z05 G (.fn 20 [] []) [.d (.sl (l.map D.str)), fv] st = some (.d (.bool (l.any p)), st) :=
 z65 (es := 1) (ag := false) T1.g20 T1.g67 hl (fun a _ => .inr ⟨rfl, rfl, rfl⟩) (h _ _)
theorem zv7 {x : List Nat} (st : St) : z05 G (.fn 21 [] []) [.d (.str x)] st = some (.d (.bool (z4i x)), st) := by
 refine z0f (ds := [.str x]) (rs := [.bool (z4i x)]) T1.g21 rfl rfl (fun e w_len harg => ?_) st
 have w_len : e.length = 6 := w_len
 have w_0 := harg 0 (by simp)
 clear harg
 simp only [List.map_cons, List.map_nil, List.getD_cons_zero] at w_0
 simp only [T1.i21, w_len, w_0, ↓ZA, ZB, simprocAttr]
 exact rq1 (by rfl)
theorem zs6 {l : List (List Nat)} (hl : SsOk l) (st : St) : z05 G (.fn 19 [] []) [.d (.sl (l.map D.str))] st = some (.d (.bool (zi7 l)), st) := by
 have hC := fun st => cnS (p := z4i) hl.1 (fun s nx => z2c fun a ha st => zv7 st) st
 refine z0f (ds := [.sl (l.map D.str)]) (rs := [.bool (zi7 l)]) T1.g19 rfl rfl (fun e w_len harg => ?_) st
 have w_len : e.length = 10 := w_len
 have w_0 := harg 0 (by simp)
 clear harg
 simp only [List.map_cons, List.map_nil, List.getD_cons_zero] at w_0
 by_cases hc0 : (9 : Int) < l.length
 ·simp only [T1.i19, hc0, w_len, w_0, ↓ZA, ZB, simprocAttr]
  exact rq1 (by simp [zi7, hc0])
 simp only [T1.i19, hC, hc0, w_len, w_0, ↓ZA, ZB, simprocAttr]
 exact rq1 (by simp [zi7, hc0])
theorem zz5 {x : RelT} (st : St) : z05 G (.fn 23 [] []) [.d x.d] st = some (.d (.bool (bigR x)), st) := by
 refine z0f (ds := [x.d]) (rs := [.bool (bigR x)]) T1.g23 rfl rfl (fun e w_len harg => ?_) st
 have w_len : e.length = 7 := w_len
 have w_0 := harg 0 (by simp)
 clear harg
 simp only [List.map_cons, List.map_nil, List.getD_cons_zero] at w_0
 simp only [T1.i23, RelT.d, w_len, w_0, ↓ZA, ZB, simprocAttr]
 exact rq1 (by rfl)
theorem zv6 {l : List PatT} (hl : ∀ x ∈ l, x.ok) {s : List (Nat × Obj)} {n0 k : Nat} (hk : k < n0) (ho : sget s k = some (.cells [.fn 19 [] []])) : TellsT G (.fn 27 [] [.ptr k 0]) s n0 PatT.d (· ∈ l) bigP := by
 intro x hx s' nx lw hs hn
 have hne : (nx = k) = False := by simp; omega
 have ho' : sget s' k = _ := (hs k hk).trans ho
 have hC := fun st => zs6 (hl x hx).2 st
 refine z4p (first := []) (args := [.d x.d]) (cap := [.ptr k 0]) (us := [.d (.bool (bigP x))]) T1.g27 rfl rfl rfl (fun e w_len harg => ?_)
 have w_len : e.length = 14 := w_len
 have w_0 : e.getD 0 .undef = .d x.d := harg 0 (by simp)
 have w_1 : e.getD 1 .undef = .ptr k 0 := harg 1 (by simp)
 clear harg
 by_cases hc0 : (40 : Int) < x.name.length
 ·simp only [T1.i27, PatT.d, hc0, w_len, w_0, ↓ZA, ZB, simprocAttr]
  exact ru1 (by first | exact Nat.le_refl _ | exact z03 (Nat.le_refl _) (by omega) | exact z03 (z03 (Nat.le_refl _) (by omega)) (by omega)) (by simp [bigP, z4i, hc0])
 simp only [T1.i27, PatT.d, hne, ho', hC, hc0, w_len, w_0, w_1, ↓ZA, ZB, simprocAttr]
 exact ru1 (by first | exact Nat.le_refl _ | exact z03 (Nat.le_refl _) (by omega) | exact z03 (z03 (Nat.le_refl _) (by omega)) (by omega)) (by simp [bigP, z4i, hc0])
theorem zv5 {l : List PatT} (hl : ∀ x ∈ l, x.ok) {s : List (Nat × Obj)} {n0 k : Nat} (hk : k < n0) (ho : sget s k = some (.cells [.fn 19 [] []])) : TellsT G (.fn 29 [] [.ptr k 0]) s n0 PatT.d (· ∈ l) bigP := by
 intro x hx s' nx lw hs hn
 have hne : (nx = k) = False := by simp; omega
 have ho' : sget s' k = _ := (hs k hk).trans ho
 have hC := fun st => zs6 (hl x hx).2 st
 refine z4p (first := []) (args := [.d x.d]) (cap := [.ptr k 0]) (us := [.d (.bool (bigP x))]) T1.g29 rfl rfl rfl (fun e w_len harg => ?_)
 have w_len : e.length = 14 := w_len
 have w_0 : e.getD 0 .undef = .d x.d := harg 0 (by simp)
 have w_1 : e.getD 1 .undef = .ptr k 0 := harg 1 (by simp)
 clear harg
 by_cases hc0 : (40 : Int) < x.name.length
 ·simp only [T1.i29, PatT.d, hc0, w_len, w_0, ↓ZA, ZB, simprocAttr]
  exact ru1 (by first | exact Nat.le_refl _ | exact z03 (Nat.le_refl _) (by omega) | exact z03 (z03 (Nat.le_refl _) (by omega)) (by omega)) (by simp [bigP, z4i, hc0])
 simp only [T1.i29, PatT.d, hne, ho', hC, hc0, w_len, w_0, w_1, ↓ZA, ZB, simprocAttr]
 exact ru1 (by first | exact Nat.le_refl _ | exact z03 (Nat.le_refl _) (by omega) | exact z03 (z03 (Nat.le_refl _) (by omega)) (by omega)) (by simp [bigP, z4i, hc0])
theorem zz4 {l : List ClauseT} (hl : ∀ x ∈ l, x.ok) {s : List (Nat × Obj)} {n0 k : Nat} (hk : k < n0) (ho : sget s k = some (.cells [.fn 19 [] []])) : TellsT G (.fn 25 [] [.ptr k 0]) s n0 ClauseT.d (· ∈ l) bigC := by
 intro x hx s' nx lw hs hn
 have hne : (nx = k) = False := by simp; omega
 have ho' : sget s' k = _ := (hs k hk).trans ho
 have hkx : k < nx := by omega
 have h1 := (hl x hx).2.1
 have h2 := (hl x hx).2.2
 have hC1 : ∀ s nx lw, sget s k = some (.cells [.fn 19 [] []]) → k < nx → z05 G (.fn 26 [] []) [.d (.sl (x.head.map PatT.d)), .fn 27 [] [.ptr k 0]] { s := s, next := nx, low := lw } = some (.d (.bool (x.head.any bigP)), { s := s, next := nx, low := lw }) := fun s nx lw h h' =>
  z65 (p := bigP) T1.g26 T1.g70 h1.1 (fun a _ => z4l) (zv6 h1.2 h' h)
 have hC2 : ∀ s nx lw, sget s k = some (.cells [.fn 19 [] []]) → k < nx → z05 G (.fn 28 [] []) [.d (.sl (x.body.map PatT.d)), .fn 29 [] [.ptr k 0]] { s := s, next := nx, low := lw } = some (.d (.bool (x.body.any bigP)), { s := s, next := nx, low := lw }) := fun s nx lw h h' =>
  z65 (p := bigP) T1.g28 T1.g71 h2.1 (fun a _ => z4l) (zv5 h2.2 h' h)
 refine z4p (first := []) (args := [.d x.d]) (cap := [.ptr k 0]) (us := [.d (.bool (bigC x))]) T1.g25 rfl rfl rfl (fun e w_len harg => ?_)
 have w_len : e.length = 32 := w_len
 have w_0 : e.getD 0 .undef = .d x.d := harg 0 (by simp)
 have w_1 : e.getD 1 .undef = .ptr k 0 := harg 1 (by simp)
 clear harg
 by_cases hc0 : (40 : Int) < x.rel.length
 ·simp only [T1.i25, ClauseT.d, hc0, w_len, w_0, ↓ZA, ZB, simprocAttr]
  exact ru1 (by first | exact Nat.le_refl _ | exact z03 (Nat.le_refl _) (by omega) | exact z03 (z03 (Nat.le_refl _) (by omega)) (by omega)) (by simp [bigC, z4i, hc0])
 by_cases hc1 : (6 : Int) < x.head.length
 ·simp only [T1.i25, ClauseT.d, hc0, hc1, w_len, w_0, ↓ZA, ZB, simprocAttr]
  exact ru1 (by first | exact Nat.le_refl _ | exact z03 (Nat.le_refl _) (by omega) | exact z03 (z03 (Nat.le_refl _) (by omega)) (by omega)) (by simp [bigC, z4i, hc0, hc1])
 by_cases hc2 : (8 : Int) < x.body.length
 ·simp only [T1.i25, ClauseT.d, hc0, hc1, hc2, w_len, w_0, ↓ZA, ZB, simprocAttr]
  exact ru1 (by first | exact Nat.le_refl _ | exact z03 (Nat.le_refl _) (by omega) | exact z03 (z03 (Nat.le_refl _) (by omega)) (by omega)) (by simp [bigC, z4i, hc0, hc1, hc2])
 cases hc3 : x.head.any bigP with
 | true =>
  simp (maxDischargeDepth := 60) only [T1.i25, ClauseT.d, hne, ho', hkx, hC1, hc0, hc1, hc2, hc3, w_len, w_0, w_1, ↓ZA, ZB, simprocAttr]
  exact ru1 (by first | exact Nat.le_refl _ | exact z03 (Nat.le_refl _) (by omega) | exact z03 (z03 (Nat.le_refl _) (by omega)) (by omega)) (by simp [bigC, z4i, hc0, hc1, hc2, hc3])
 | false =>
 simp (maxDischargeDepth := 60) only [T1.i25, ClauseT.d, hne, ho', hkx, hC1, hC2, hc0, hc1, hc2, hc3, w_len, w_0, w_1, ↓ZA, ZB, simprocAttr]
 exact ru1 (by first | exact Nat.le_refl _ | exact z03 (Nat.le_refl _) (by omega) | exact z03 (z03 (Nat.le_refl _) (by omega)) (by omega)) (by simp [bigC, z4i, hc0, hc1, hc2, hc3])
theorem y1n {r : RulesT} (hr : r.ok) (st : St) : z05 G (.fn 4 [] []) [.d r.d] st = some (.d (.bool (z22 r)), st) := by
 have hC1 : ∀ st, z05 G (.fn 22 [] []) [.d (.sl (r.rels.map RelT.d)), .fn 23 [] []] st = some (.d (.bool (r.rels.any bigR)), st) := fun st =>
  z65 (p := bigR) T1.g22 T1.g68 hr.1.1 (fun a _ => zby) (z2c fun a ha st => zz5 st)
 have hC2 : ∀ s nx lw, sget s 2 = some (.cells [.fn 19 [] []]) → 2 < nx → z05 G (.fn 24 [] []) [.d (.sl (r.clauses.map ClauseT.d)), .fn 25 [] [.ptr 2 0]] { s := s, next := nx, low := lw } = some (.d (.bool (r.clauses.any bigC)), { s := s, next := nx, low := lw }) := fun s nx lw h h' =>
  z65 (p := bigC) T1.g24 T1.g69 hr.2.1 (fun a _ => z6n) (zz4 hr.2.2 h' h)
 refine z0f (ds := [r.d]) (rs := [.bool (z22 r)]) T1.g4 rfl rfl (fun e w_len harg => ?_) st
 have w_len : e.length = 25 := w_len
 have w_0 := harg 0 (by simp)
 clear harg
 simp only [List.map_cons, List.map_nil, List.getD_cons_zero] at w_0
 by_cases hc0 : (12 : Int) < r.rels.length
 ·simp only [T1.i4, RulesT.d, hc0, w_len, w_0, ↓ZA, ZB, simprocAttr]
  exact rq1 (by simp [z22, hc0])
 by_cases hc1 : (30 : Int) < r.clauses.length
 ·simp only [T1.i4, RulesT.d, hc0, hc1, w_len, w_0, ↓ZA, ZB, simprocAttr]
  exact rq1 (by simp [z22, hc0, hc1])
 cases hc2 : r.rels.any bigR with
 | true =>
  simp only [T1.i4, RulesT.d, hC1, hc0, hc1, hc2, w_len, w_0, ↓ZA, ZB, simprocAttr]
  exact rq1 (by simp [z22, hc0, hc1, hc2])
 | false =>
 simp only [T1.i4, RulesT.d, hC1, hC2, hc0, hc1, hc2, w_len, w_0, ↓ZA, ZB, simprocAttr]
 exact rq1 (by simp [z22, hc0, hc1, hc2])
theorem zqk {x : NodeT} (st : St) : z05 G (.fn 74 [] []) [.d x.d] st = some (.d (.bool (z7w x)), st) := by
 refine z0f (ds := [x.d]) (rs := [.bool (z7w x)]) T1.g74 rfl rfl (fun e w_len harg => ?_) st
 have w_len : e.length = 13 := w_len
 have w_0 := harg 0 (by simp)
 clear harg
 simp only [List.map_cons, List.map_nil, List.getD_cons_zero] at w_0
 by_cases hc0 : (12 : Int) < x.kids.length
 ·simp only [T1.i74, NodeT.d, hc0, w_len, w_0, ↓ZA, ZB, simprocAttr]
  exact rq1 (by simp [z7w, z4i, hc0])
 simp only [T1.i74, NodeT.d, hc0, w_len, w_0, ↓ZA, ZB, simprocAttr]
 exact rq1 (by simp [z7w, z4i, hc0])
theorem zqj {t : TreeT} (ht : t.ok) (st : St) : z05 G (.fn 31 [] []) [.d t.d] st = some (.d (.bool (z7v t)), st) := by
 have hC1 : ∀ st, z05 G (.fn 73 [] []) [.d (.sl (t.nodes.map NodeT.d)), .fn 74 [] []] st = some (.d (.bool (t.nodes.any z7w)), st) := fun st =>
  z65 (p := z7w) T1.g73 T1.g104 ht.1.1 (fun a _ => z3p) (z2c fun a ha st => zqk st)
 refine z0f (ds := [t.d]) (rs := [.bool (z7v t)]) T1.g31 rfl rfl (fun e w_len harg => ?_) st
 have w_len : e.length = 12 := w_len
 have w_0 := harg 0 (by simp)
 clear harg
 simp only [List.map_cons, List.map_nil, List.getD_cons_zero] at w_0
 by_cases hc0 : (68 : Int) < t.nodes.length
 ·simp only [T1.i31, TreeT.d, hc0, w_len, w_0, ↓ZA, ZB, simprocAttr]
  exact rq1 (by simp [z7v, hc0])
 simp only [T1.i31, TreeT.d, hC1, hc0, w_len, w_0, ↓ZA, ZB, simprocAttr]
 exact rq1 (by simp [z7v, hc0])
theorem zno {l : List TreeT} {i : Nat} (hi : i < l.length) : sumW (l.take (i + 1)) = IntKind.i64.wrap (sumW (l.take i) + l[i].nodes.length) := by
 rw [List.take_add_one, List.getElem?_eq_getElem hi, sumW, List.foldl_append]
 rfl
theorem zdk {g : GoalT} (hg : g.ok) (st : St) : z05 G (.fn 5 [] []) [.d g.d] st = some (.d (.bool (z2y g)), st) := by
 have hl := hg.2.1
 unfold LOk at hl
 have hC1 : ∀ st, z05 G (.fn 30 [] []) [.d (.sl (g.args.map TreeT.d)), .fn 31 [] []] st = some (.d (.bool (g.args.any z7v)), st) := fun st =>
  z65 (p := z7v) T1.g30 T1.g72 hg.2.1 (fun a _ => z1k) (z2c fun a ha st => zqj (hg.2.2 a ha) st)
 refine z0f (ds := [g.d]) (rs := [.bool (z2y g)]) T1.g5 rfl rfl (fun e w_len harg => ?_) st
 have w_len : e.length = 38 := w_len
 have w_0 := harg 0 (by simp)
 clear harg
 simp only [List.map_cons, List.map_nil, List.getD_cons_zero] at w_0
 simp only [T1.i5, GoalT.d, w_len, w_0, ↓ZA, ZB, simprocAttr]
 refine z09 (fun e0 s0 m env st => ∃ (i nxi lwi : Nat) (si : List (Nat × Obj)) (n3 : Int), m = g.args.length - i ∧ (i ≤ g.args.length) ∧ (n3 = sumW (g.args.take i)) ∧ sget si (0) = some (.cells [.d (.str g.rel), .d (.sl (g.args.map TreeT.d))]) ∧ 1 ≤ nxi ∧ 0 ≤ lwi ∧ env.length = 38 ∧ env.getD 9 .undef = .d (.int .i64 i) ∧ env.getD 1 .undef = .ptr 0 0 ∧ env.getD 7 .undef = .d (.sl (g.args.map TreeT.d)) ∧ env.getD 8 .undef = .d (.int .i64 g.args.length) ∧ env.getD 3 .undef = .d (.int .i64 n3) ∧ st = { s := si, next := nxi, low := lwi }) ?_ (g.args.length) (by refine ⟨0, _, _, _, 0, rfl, by omega, rfl, ?_, (by omega), Nat.zero_le _, ?_, ?_, ?_, ?_, ?_, ?_, rfl⟩ <;> simp only [w_len, ZB, simprocAttr])
 rintro m env st ⟨i, nxi, lwi, si, n3, hm, a_0, a_1, w_ac0, w_ab, w_alo, w_len, w_9, w_1, w_7, w_8, w_3, rfl⟩
 have w_aN := cf1 (x := nxi) (a := 0) (by omega)
 have w_aS := cf2 (x := nxi) (by omega) w_ac0
 have w_aZ := zf0 (x := nxi) (n := 1) (by omega)
 by_cases hi : i < g.args.length
 ·simp only [hi, z19 hi, z02 hi (by omega), w_len, w_9, w_7, w_8, w_3, ↓ZA, ZB, simprocAttr]
  exact z08 (by refine ⟨_, by omega, i + 1, _, _, _, IntKind.i64.wrap (n3 + g.args[i].nodes.length), rfl, by omega, (by rw [zno hi, a_1]), ?_, (by omega), Nat.zero_le _, ?_, ?_, ?_, ?_, ?_, ?_, rfl⟩ <;> simp only [w_len, w_1, w_7, w_8, w_ac0, ZB, simprocAttr])
 ·have ht : g.args.take i = g.args := List.take_of_length_le (by omega)
  rw [ht] at a_1
  subst a_1
  by_cases h1 : (40 : Int) < g.rel.length
  ·simp only [hi, h1, w_len, w_9, w_1, w_8, w_ac0, ↓ZA, ZB, simprocAttr]
   exact rq1 (by simp [z2y, z4i, h1])
  by_cases h2 : (6 : Int) < g.args.length
  ·simp only [hi, h1, h2, w_len, w_9, w_1, w_8, w_ac0, ↓ZA, ZB, simprocAttr]
   exact rq1 (by simp [z2y, h2])
  by_cases h3 : (90 : Int) < sumW g.args
  ·simp only [hi, h1, h2, h3, w_len, w_9, w_1, w_8, w_3, w_ac0, ↓ZA, ZB, simprocAttr]
   exact rq1 (by simp [z2y, h3])
  simp only [hi, h1, h2, h3, hC1, w_len, w_9, w_1, w_8, w_3, w_ac0, ↓ZA, ZB, simprocAttr]
  exact rq1 (by simp [z2y, z4i, h1, h2, h3])
end Go.Lift.K
namespace Go.Lift.K
open Go Go.Lift
set_option maxRecDepth 100000
theorem zlb : ∀ {l m : List D}, all2 D.beq l m = D.beqL l m
 | [], [] => rfl
 | [], _ :: _ => rfl
 | _ :: _, [] => rfl
 | x :: l, y :: m => by simp only [all2, D.beqL, zlb]
theorem zdc {f es : Nat} {ag : Bool} {z : List V} (hG : G f = some (zeq es ag z)) (hz : z.length = es) {α : Type} {enc : α → D} {fv : V} {l m : List α} (hl : LOk l) (he : ∀ a, Elt es ag (enc a))
  (hf : ∀ a ∈ l, ∀ b ∈ m, ∀ st, z05 G fv [.d (enc a), .d (enc b)] st = some (.d (.bool (D.beq (enc a) (enc b))), st)) (st : St) :
  z05 G (.fn f [] []) [.d (.sl (l.map enc)), .d (.sl (m.map enc)), fv] st = some (.d (.bool (D.beqL (l.map enc) (m.map enc))), st) := by
 unfold LOk at hl
 rw [← zlb]
 exact y16 hG hz (by simpa using hl) (fun x hx => by obtain ⟨a, _, rfl⟩ := List.mem_map.1 hx; exact he a) (fun x hx => by obtain ⟨a, _, rfl⟩ := List.mem_map.1 hx; exact he a) (fun x y ⟨hx, hy⟩ s' nx lw _ _ => by
  obtain ⟨a, ha, rfl⟩ := List.mem_map.1 hx
  obtain ⟨b, hb, rfl⟩ := List.mem_map.1 hy
  exact hf a ha b hb _)
theorem zxx {x y : List Nat} : binV .neq (.d (.str x)) (.d (.str y)) = some (.d (.bool (!D.beq (.str x) (.str y)))) := by rw [z86]; rfl
theorem zxy {x y : Int} : binV .neq (.d (.int .i64 x)) (.d (.int .i64 y)) = some (.d (.bool (!D.beq (.int .i64 x) (.int .i64 y)))) := by rw [zc8]; simp [D.beq]
theorem zkn {l m : List (List Nat)} (hl : LOk l) (st : St) : z05 G (.fn 64 [] []) [.d (.sl (l.map D.str)), .d (.sl (m.map D.str))] st = some (.d (.bool (D.beqL (l.map D.str) (m.map D.str))), st) :=
 y11 T1.g64 (by unfold LOk at hl; simpa using hl) (fun x hx => by obtain ⟨a, _, rfl⟩ := List.mem_map.1 hx; exact z7d) (fun x hx => by obtain ⟨a, _, rfl⟩ := List.mem_map.1 hx; exact z7d) (fun x hx y hy => by
  obtain ⟨a, _, rfl⟩ := List.mem_map.1 hx
  obtain ⟨b, _, rfl⟩ := List.mem_map.1 hy
  exact zxx) st
theorem zuq {l m : List Int} (hl : LOk l) (st : St) : z05 G (.fn 39 [] []) [.d (.sl (l.map (D.int .i64))), .d (.sl (m.map (D.int .i64)))] st = some (.d (.bool (D.beqL (l.map (D.int .i64)) (m.map (D.int .i64)))), st) :=
 y11 T1.g39 (by unfold LOk at hl; simpa using hl) (fun x hx => by obtain ⟨a, _, rfl⟩ := List.mem_map.1 hx; exact z5o) (fun x hx => by obtain ⟨a, _, rfl⟩ := List.mem_map.1 hx; exact z5o) (fun x hx y hy => by
  obtain ⟨a, _, rfl⟩ := List.mem_map.1 hx
  obtain ⟨b, _, rfl⟩ := List.mem_map.1 hy
  exact zxy) st
theorem zup {l m : List RelT} (hl : LOk l) (h1 : ∀ x ∈ l, x.ok ∧ x.name.length ≤ 4611686018427387904) (h2 : ∀ x ∈ m, x.ok ∧ x.name.length ≤ 4611686018427387904) (st : St) :
  z05 G (.fn 59 [] []) [.d (.sl (l.map RelT.d)), .d (.sl (m.map RelT.d))] st = some (.d (.bool (D.beqL (l.map RelT.d) (m.map RelT.d))), st) := by
 have hc : ∀ x : RelT, x.ok ∧ x.name.length ≤ 4611686018427387904 → z2r true [.s, .i .i64, .i .i64] x.d = true := fun x hx => by
  obtain ⟨⟨_, a1, a2⟩, a3⟩ := hx
  unfold IOk at a1 a2
  have e1 : IntKind.i64.min = -9223372036854775808 := by decide
  have e2 : IntKind.i64.max = 9223372036854775807 := by decide
  simp [RelT.d, z2r, conf, z81, e1, e2]
  omega
 exact y10 T1.g59 (by unfold LOk at hl; simpa using hl) (fun x hx => by obtain ⟨a, _, rfl⟩ := List.mem_map.1 hx; exact zby) (fun x hx => by obtain ⟨a, _, rfl⟩ := List.mem_map.1 hx; exact zby) (fun x hx y hy => by
  obtain ⟨a, ha, rfl⟩ := List.mem_map.1 hx
  obtain ⟨b, hb, rfl⟩ := List.mem_map.1 hy
  rw [hc a (h1 a ha), hc b (h2 b hb)]
  rfl) st
theorem zhm {x y : PatT} (hx : x.ok) (st : St) : z05 G (.fn 63 [] []) [.d x.d, .d y.d] st = some (.d (.bool (D.beq x.d y.d)), st) := by
 have hC := fun st => zkn (m := y.vars) hx.2.1 st
 refine z0f (ds := [x.d, y.d]) (rs := [.bool (D.beq x.d y.d)]) T1.g63 rfl rfl (fun e w_len harg => ?_) st
 have w_len : e.length = 17 := w_len
 have w_0 := harg 0 (by simp)
 have w_1 := harg 1 (by simp)
 clear harg
 simp only [List.map_cons, List.map_nil, List.getD_cons_zero, List.getD_cons_succ] at w_0 w_1
 by_cases h1 : x.name = y.name
 ·simp only [T1.i63, PatT.d, h1, hC, w_len, w_0, w_1, ↓ZA, ZB, simprocAttr]
  exact rq1 (by simp [D.beq, D.beqL])
 ·simp only [T1.i63, PatT.d, h1, w_len, w_0, w_1, ↓ZA, ZB, simprocAttr]
  exact rq1 (by simp [D.beq, D.beqL, h1])
theorem zhl {x y : PatT} (hx : x.ok) (st : St) : z05 G (.fn 66 [] []) [.d x.d, .d y.d] st = some (.d (.bool (D.beq x.d y.d)), st) := by
 have hC := fun st => zkn (m := y.vars) hx.2.1 st
 refine z0f (ds := [x.d, y.d]) (rs := [.bool (D.beq x.d y.d)]) T1.g66 rfl rfl (fun e w_len harg => ?_) st
 have w_len : e.length = 17 := w_len
 have w_0 := harg 0 (by simp)
 have w_1 := harg 1 (by simp)
 clear harg
 simp only [List.map_cons, List.map_nil, List.getD_cons_zero, List.getD_cons_succ] at w_0 w_1
 by_cases h1 : x.name = y.name
 ·simp only [T1.i66, PatT.d, h1, hC, w_len, w_0, w_1, ↓ZA, ZB, simprocAttr]
  exact rq1 (by simp [D.beq, D.beqL])
 ·simp only [T1.i66, PatT.d, h1, w_len, w_0, w_1, ↓ZA, ZB, simprocAttr]
  exact rq1 (by simp [D.beq, D.beqL, h1])
theorem zdv {x y : ClauseT} (hx : x.ok) (st : St) : z05 G (.fn 61 [] []) [.d x.d, .d y.d] st = some (.d (.bool (D.beq x.d y.d)), st) := by
 have hC1 := fun st => zdc (l := x.head) (m := y.head) T1.g62 rfl hx.2.1.1 (fun a => z4l) (fun a ha b _ st => zhm (hx.2.1.2 a ha) st) st
 have hC2 := fun st => zdc (l := x.body) (m := y.body) T1.g65 rfl hx.2.2.1 (fun a => z4l) (fun a ha b _ st => zhl (hx.2.2.2 a ha) st) st
 refine z0f (ds := [x.d, y.d]) (rs := [.bool (D.beq x.d y.d)]) T1.g61 rfl rfl (fun e w_len harg => ?_) st
 have w_len : e.length = 24 := w_len
 have w_0 := harg 0 (by simp)
 have w_1 := harg 1 (by simp)
 clear harg
 simp only [List.map_cons, List.map_nil, List.getD_cons_zero, List.getD_cons_succ] at w_0 w_1
 by_cases h1 : x.rel = y.rel
 ·cases h2 : D.beqL (x.head.map PatT.d) (y.head.map PatT.d) with
  | true =>
   simp only [T1.i61, ClauseT.d, h1, hC1, h2, hC2, w_len, w_0, w_1, ↓ZA, ZB, simprocAttr]
   exact rq1 (by simp [D.beq, D.beqL, h2])
  | false =>
   simp only [T1.i61, ClauseT.d, h1, hC1, h2, w_len, w_0, w_1, ↓ZA, ZB, simprocAttr]
   exact rq1 (by simp [D.beq, D.beqL, h2])
 ·simp only [T1.i61, ClauseT.d, h1, w_len, w_0, w_1, ↓ZA, ZB, simprocAttr]
  exact rq1 (by simp [D.beq, D.beqL, h1])
theorem zxd {x y : RulesT} (hx : x.ok) (h1 : ∀ a ∈ x.rels, a.ok ∧ a.name.length ≤ 4611686018427387904) (h2 : ∀ a ∈ y.rels, a.ok ∧ a.name.length ≤ 4611686018427387904) (st : St) : z05 G (.fn 18 [] []) [.d x.d, .d y.d] st = some (.d (.bool (D.beq x.d y.d)), st) := by
 have hC1 := fun st => zup hx.1.1 h1 h2 st
 have hC2 := fun st => zdc (l := x.clauses) (m := y.clauses) T1.g60 rfl hx.2.1 (fun a => z6n) (fun a ha b _ st => zdv (hx.2.2 a ha) st) st
 refine z0f (ds := [x.d, y.d]) (rs := [.bool (D.beq x.d y.d)]) T1.g18 rfl rfl (fun e w_len harg => ?_) st
 have w_len : e.length = 17 := w_len
 have w_0 := harg 0 (by simp)
 have w_1 := harg 1 (by simp)
 clear harg
 simp only [List.map_cons, List.map_nil, List.getD_cons_zero, List.getD_cons_succ] at w_0 w_1
 cases h3 : D.beqL (x.rels.map RelT.d) (y.rels.map RelT.d) with
 | true =>
  simp only [T1.i18, RulesT.d, hC1, h3, hC2, w_len, w_0, w_1, ↓ZA, ZB, simprocAttr]
  exact rq1 (by simp [D.beq, D.beqL, h3])
 | false =>
  simp only [T1.i18, RulesT.d, hC1, h3, w_len, w_0, w_1, ↓ZA, ZB, simprocAttr]
  exact rq1 (by simp [D.beq, D.beqL, h3])
theorem zhn {x y : NodeT} (hx : x.ok) (st : St) : z05 G (.fn 101 [] []) [.d x.d, .d y.d] st = some (.d (.bool (D.beq x.d y.d)), st) := by
 have hC := fun st => zuq (m := y.kids) hx.2.1 st
 refine z0f (ds := [x.d, y.d]) (rs := [.bool (D.beq x.d y.d)]) T1.g101 rfl rfl (fun e w_len harg => ?_) st
 have w_len : e.length = 17 := w_len
 have w_0 := harg 0 (by simp)
 have w_1 := harg 1 (by simp)
 clear harg
 simp only [List.map_cons, List.map_nil, List.getD_cons_zero, List.getD_cons_succ] at w_0 w_1
 by_cases h1 : x.name = y.name
 ·simp only [T1.i101, NodeT.d, h1, hC, w_len, w_0, w_1, ↓ZA, ZB, simprocAttr]
  exact rq1 (by simp [D.beq, D.beqL])
 ·simp only [T1.i101, NodeT.d, h1, w_len, w_0, w_1, ↓ZA, ZB, simprocAttr]
  exact rq1 (by simp [D.beq, D.beqL, h1])
theorem zhk {x y : TreeT} (hx : x.ok) (st : St) : z05 G (.fn 55 [] []) [.d x.d, .d y.d] st = some (.d (.bool (D.beq x.d y.d)), st) := by
 have hC := fun st => zdc (l := x.nodes) (m := y.nodes) T1.g100 rfl hx.1.1 (fun a => z3p) (fun a ha b _ st => zhn (hx.1.2 a ha) st) st
 refine z0f (ds := [x.d, y.d]) (rs := [.bool (D.beq x.d y.d)]) T1.g55 rfl rfl (fun e w_len harg => ?_) st
 have w_len : e.length = 17 := w_len
 have w_0 := harg 0 (by simp)
 have w_1 := harg 1 (by simp)
 clear harg
 simp only [List.map_cons, List.map_nil, List.getD_cons_zero, List.getD_cons_succ] at w_0 w_1
 by_cases h1 : x.root = y.root
 ·simp only [T1.i55, TreeT.d, h1, hC, w_len, w_0, w_1, ↓ZA, ZB, simprocAttr]
  exact rq1 (by simp [D.beq, D.beqL])
 ·simp only [T1.i55, TreeT.d, h1, w_len, w_0, w_1, ↓ZA, ZB, simprocAttr]
  exact rq1 (by simp [D.beq, D.beqL, h1])
theorem zho {x y : GoalT} (hx : x.ok) (st : St) : z05 G (.fn 53 [] []) [.d x.d, .d y.d] st = some (.d (.bool (D.beq x.d y.d)), st) := by
 have hC := fun st => zdc (l := x.args) (m := y.args) T1.g54 rfl hx.2.1 (fun a => z1k) (fun a ha b _ st => zhk (hx.2.2 a ha) st) st
 refine z0f (ds := [x.d, y.d]) (rs := [.bool (D.beq x.d y.d)]) T1.g53 rfl rfl (fun e w_len harg => ?_) st
 have w_len : e.length = 17 := w_len
 have w_0 := harg 0 (by simp)
 have w_1 := harg 1 (by simp)
 clear harg
 simp only [List.map_cons, List.map_nil, List.getD_cons_zero, List.getD_cons_succ] at w_0 w_1
 by_cases h1 : x.rel = y.rel
 ·simp only [T1.i53, GoalT.d, h1, hC, w_len, w_0, w_1, ↓ZA, ZB, simprocAttr]
  exact rq1 (by simp [D.beq, D.beqL])
 ·simp only [T1.i53, GoalT.d, h1, w_len, w_0, w_1, ↓ZA, ZB, simprocAttr]
  exact rq1 (by simp [D.beq, D.beqL, h1])
theorem z96 {x y : List GoalT} (hl : LOk x) (hx : ∀ g ∈ x, g.ok) (st : St) : z05 G (.fn 15 [] []) [.d (.sl (x.map GoalT.d)), .d (.sl (y.map GoalT.d))] st = some (.d (.bool (D.beqL (x.map GoalT.d) (y.map GoalT.d))), st) := by
 have hC := fun st => zdc (l := x) (m := y) T1.g52 rfl hl (fun a => z6m) (fun a ha b _ st => zho (hx a ha) st) st
 refine z0f (ds := [.sl (x.map GoalT.d), .sl (y.map GoalT.d)]) (rs := [.bool (D.beqL (x.map GoalT.d) (y.map GoalT.d))]) T1.g15 rfl rfl (fun e w_len harg => ?_) st
 have w_len : e.length = 8 := w_len
 have w_0 := harg 0 (by simp)
 have w_1 := harg 1 (by simp)
 clear harg
 simp only [List.map_cons, List.map_nil, List.getD_cons_zero, List.getD_cons_succ] at w_0 w_1
 simp only [T1.i15, hC, w_len, w_0, w_1, ↓ZA, ZB, simprocAttr]
 exact rq1 (by rfl)
end Go.Lift.K
namespace Go.Lift.K
open Go Go.Lift
set_option maxRecDepth 100000
theorem zyq {l : List Int} (hl : l.length ≤ 1000000) (st : St) : z05 G (.fn 88 [] []) [.d (.sl (l.map (D.int .i64)))] st = some (.d (.sl (l.map (D.int .i64))), st) := by
 have he : ∀ x ∈ l.map (D.int .i64), Elt 1 false x := fun x hx => by obtain ⟨a, _, rfl⟩ := List.mem_map.1 hx; exact z5o
 have hA : ∀ s nx lw, sget s 1 = some (.cells []) → z0y { s := s, next := nx, low := lw } 3 1 false 8 (.arr 1 1 false 0 0) (.d (.sl (l.map (D.int .i64)))) = _ := fun s nx lw h => zf9 h he (by simp; omega) (by simp; omega)
 refine z0f (ds := [.sl (l.map (D.int .i64))]) (rs := [.sl (l.map (D.int .i64))]) T1.g88 rfl rfl (fun e w_len harg => ?_) st
 have w_len : e.length = 6 := w_len
 have w_0 := harg 0 (by simp)
 clear harg
 simp only [List.map_cons, List.map_nil, List.getD_cons_zero] at w_0
 simp only [T1.i88, hA, w_len, w_0, ↓LA, LB, simprocAttr]
 have hc := z7e (s := [(3, .cells ((l.map (D.int .i64)).flatMap cellsD |>.map V.d))]) (lo := 0) (hi := 4) (k := 3) (es := 1) (ag := false) (l := l.map (D.int .i64)) (by omega) (by omega) (by simp [sget]) (by omega) he
 have hs := CV.snap (b := 0) (m := z07) (by omega) (by decide) hc
 simp only [List.length_map] at hs
 exact rql1 hs rfl
theorem zre {l : List (List Nat)} (hl : l.length ≤ 1000000) (st : St) : z05 G (.fn 42 [] []) [.d (.sl (l.map D.str))] st = some (.d (.sl (l.map D.str)), st) := by
 have he : ∀ x ∈ l.map D.str, Elt 1 false x := fun x hx => by obtain ⟨a, _, rfl⟩ := List.mem_map.1 hx; exact z7d
 have hA : ∀ s nx lw, sget s 1 = some (.cells []) → z0y { s := s, next := nx, low := lw } 3 1 false 16 (.arr 1 1 false 0 0) (.d (.sl (l.map D.str))) = _ := fun s nx lw h => zf9 h he (by simp; omega) (by simp; omega)
 refine z0f (ds := [.sl (l.map D.str)]) (rs := [.sl (l.map D.str)]) T1.g42 rfl rfl (fun e w_len harg => ?_) st
 have w_len : e.length = 6 := w_len
 have w_0 := harg 0 (by simp)
 clear harg
 simp only [List.map_cons, List.map_nil, List.getD_cons_zero] at w_0
 simp only [T1.i42, hA, w_len, w_0, ↓LA, LB, simprocAttr]
 have hc := z7e (s := [(3, .cells ((l.map D.str).flatMap cellsD |>.map V.d))]) (lo := 0) (hi := 4) (k := 3) (es := 1) (ag := false) (l := l.map D.str) (by omega) (by omega) (by simp [sget]) (by omega) he
 have hs := CV.snap (b := 0) (m := z07) (by omega) (by decide) hc
 simp only [List.length_map] at hs
 exact rql1 hs rfl
theorem zrq {l : List RelT} (hl : l.length ≤ 1000000) (st : St) : z05 G (.fn 41 [] []) [.d (.sl (l.map RelT.d))] st = some (.d (.sl (l.map RelT.d)), st) := by
 have he : ∀ x ∈ l.map RelT.d, Elt 3 true x := fun x hx => by obtain ⟨a, _, rfl⟩ := List.mem_map.1 hx; exact zby
 cases l with
 | nil =>
  refine zxw (rs := [.sl []]) T1.g41 rfl rfl (fun v hv e w_len w_0 => ?_) st
  have w_len : e.length = 8 := w_len
  rcases hv with rfl | rfl
  ·simp only [w_len, w_0, T1.i41, ↓LA, LB, simprocAttr]
   exact rql1 rfl rfl
  ·have hA : ∀ s nx lw, sget s 3 = some (.cells []) → z0y { s := s, next := nx, low := lw } 5 3 true 32 (.arr 3 3 true 0 0) .emp = _ := fun s nx lw h => zvb h rfl
   simp only [w_len, w_0, T1.i41, hA, ↓LA, LB, simprocAttr]
   refine rql1 (x := .sl []) ?_ rfl
   simp [snap, z07, scells, sget, z4s]
 | cons a l =>
  have hA : ∀ s nx lw, sget s 3 = some (.cells []) → z0y { s := s, next := nx, low := lw } 5 3 true 32 (.arr 3 3 true 0 0) (.d (.sl ((a :: l).map RelT.d))) = _ := fun s nx lw h => zf9 h he (by simp at hl ⊢; omega) (by simp at hl ⊢; omega)
  simp only [List.map_cons] at hA
  refine ztd (ds := [.sl ((a :: l).map RelT.d)]) (rs := [.sl ((a :: l).map RelT.d)]) T1.g41 rfl rfl (fun e w_len harg => ?_) st
  have w_len : e.length = 8 := w_len
  have w_0 := harg 0 (by simp)
  clear harg
  simp only [List.map_cons, List.map_nil, List.getD_cons_zero] at w_0
  simp only [T1.i41, List.map_cons, hA, w_len, w_0, ↓LA, LB, simprocAttr]
  have hc := z7e (s := [(5, .cells (((a :: l).map RelT.d).flatMap cellsD |>.map V.d))]) (lo := 0) (hi := 6) (k := 5) (es := 3) (ag := true) (l := (a :: l).map RelT.d) (by omega) (by omega) (by simp [sget]) (by omega) he
  have hs := CV.snap (b := 0) (m := z07) (by omega) (by decide) hc
  simp only [List.map_cons, List.length_cons, List.length_map] at hs
  exact rql1 hs rfl
end Go.Lift.K
namespace Go.Lift.K
open Go Go.Lift
set_option maxRecDepth 100000
def zb5 (x : NodeT) : Prop := x.kids.length ≤ 1000000
theorem z16 {α : Type} {l : List α} {i : Nat} (hi : i < l.length) : l.take (i + 1) = l.take i ++ [l[i]] := by
 rw [List.take_add_one, List.getElem?_eq_getElem hi]
 rfl
theorem z0h {α : Type} {enc : α → D} {l : List α} {es : Nat} {ag : Bool} (h : ∀ a, Elt es ag (enc a)) : ∀ x ∈ l.map enc, Elt es ag x := fun x hx => by
 obtain ⟨a, _, rfl⟩ := List.mem_map.1 hx
 exact h a
theorem zly {t : TreeT} (hl : t.nodes.length ≤ 1000000) (hk : ∀ x ∈ t.nodes, zb5 x) (st : St) : z05 G (.fn 43 [] []) [.d t.d] st = some (.d t.d, st) := by
 refine z0f (ds := [t.d]) (rs := [t.d]) T1.g43 rfl rfl (fun e w_len harg => ?_) st
 have w_len : e.length = 29 := w_len
 have w_0 := harg 0 (by simp)
 clear harg
 simp only [List.map_cons, List.map_nil, List.getD_cons_zero] at w_0
 simp only [T1.i43, TreeT.d, w_len, w_0, ↓LA, LB, simprocAttr]
 refine z09 (fun e0 s0 m env st => ∃ (i nxi lwi : Nat) (si : List (Nat × Obj)) (xv : V), m = t.nodes.length - i ∧ (i ≤ t.nodes.length) ∧ (Gr si false 7 0 nxi 2 true xv ((t.nodes.take i).map NodeT.d)) ∧ sget si (0) = some (.cells [.d (.sl (t.nodes.map NodeT.d)), .d (.int .i64 t.root)]) ∧ sget si (1) = some (.cells [.nilS, .d (.int .i64 0)]) ∧ sget si (5) = some (.cells [xv, .d (.int .i64 t.root)]) ∧ 7 ≤ nxi ∧ 0 ≤ lwi ∧ env.length = 29 ∧ env.getD 12 .undef = .d (.int .i64 i) ∧ env.getD 1 .undef = .ptr 0 0 ∧ env.getD 2 .undef = .ptr 1 0 ∧ env.getD 3 .undef = .ptr 5 0 ∧ env.getD 10 .undef = .d (.sl (t.nodes.map NodeT.d)) ∧ env.getD 11 .undef = .d (.int .i64 t.nodes.length) ∧ st = { s := si, next := nxi, low := lwi }) ?_ (t.nodes.length) (by refine ⟨0, _, _, _, .nilS, rfl, by omega, Gr.nil, ?_, ?_, ?_, (by omega), Nat.zero_le _, ?_, ?_, ?_, ?_, ?_, ?_, ?_, rfl⟩ <;> simp only [w_len, LB, simprocAttr])
 rintro m env st ⟨i, nxi, lwi, si, xv, hm, a_0, a_1, w_ac0, w_ac1, w_ac2, w_ab, w_alo, w_len, w_12, w_1, w_2, w_3, w_10, w_11, rfl⟩
 have w_aN := And.intro (cf1 (x := nxi) (a := 0) (by omega)) (And.intro (cf1 (x := nxi) (a := 1) (by omega)) (cf1 (x := nxi) (a := 5) (by omega)))
 have w_aS := And.intro (cf2 (x := nxi) (by omega) w_ac0) (And.intro (cf2 (x := nxi) (by omega) w_ac1) (cf2 (x := nxi) (by omega) w_ac2))
 have w_aZ := zf0 (x := nxi) (n := 7) (by omega)
 have w_a_1V := And.intro (a_1.away (j := 0) (by omega)) (And.intro (a_1.away (j := 1) (by omega)) (a_1.away (j := 5) (by omega)))
 have w_a_1c := a_1.cell.1
 have w_a_1d := a_1.cell.2
 have w_a_1e := a_1.beq
 by_cases hi : i < t.nodes.length
 ·have hD := fun st => zyq (hk _ (List.getElem_mem hi)) st
  simp only [hi, z0j hi, hD, w_len, w_12, w_3, w_10, w_11, w_ac2, w_aN, w_a_1e, ↓LA, LB, simprocAttr]
  refine z3z a_1 ?_ (z0h fun a => z3p) z01 ?_ ?_ ?_ ?_ ?_ fun chc0 hc0 => ?_
  ·intro j h1 h2; simp (disch := omega) only [z00]
  ·rfl
  ·omega
  ·simp; omega
  ·simp; omega
  ·exact rfl
  simp only [z02 hi (by omega), w_len, w_12, w_3, w_ac2, w_aN, w_a_1V, ↓LA, LB, simprocAttr]
  have hn : (t.nodes.take (i + 1)).map NodeT.d = (t.nodes.take i).map NodeT.d ++ [t.nodes[i].d] := by rw [z16 hi, List.map_append]; rfl
  exact z08 (by refine ⟨_, by omega, i + 1, _, _, _, .arr (nxi + 14) 2 true 0 (((t.nodes.take i).map NodeT.d).length + 1), rfl, by omega, (by rw [hn]; exact z34 hc0 (by intro j h1 h2 h3; simp (disch := omega) only [z00, z04, z0d h3]) (by omega) (by omega) (by omega) z01 rfl ⟨CV.str, CV.data, trivial⟩), ?_, ?_, ?_, (by omega), Nat.zero_le _, ?_, ?_, ?_, ?_, ?_, ?_, ?_, rfl⟩ <;> simp only [w_len, w_1, w_2, w_3, w_10, w_11, w_ac0, w_ac1, w_ac2, w_aN, w_a_1V, LB, simprocAttr])
 ·have ht : t.nodes.take i = t.nodes := List.take_of_length_le (by omega)
  have hga := a_1
  rw [ht] at hga
  simp only [hi, w_len, w_12, w_2, w_3, w_11, w_ac1, w_ac2, w_aS, w_a_1c, ↓LA, LB, simprocAttr]
  refine rql1 (x := t.d) (z5w (lv := false) (lo := 7) (n := 1) (hi := nxi) (m := 11) (by omega) (by decide) ⟨(hga.frame (by intro j h1 h2; simp (disch := omega) only [z04])).cv (by omega) (z0h fun a => z3p), CV.int, trivial⟩) rfl
def zfk (t : TreeT) : Prop := t.nodes.length ≤ 1000000 ∧ ∀ x ∈ t.nodes, zb5 x
theorem zcy {g : GoalT} (hl : g.args.length ≤ 1000000) (hk : ∀ x ∈ g.args, zfk x) (st : St) : z05 G (.fn 8 [] []) [.d g.d] st = some (.d g.d, st) := by
 refine z0f (ds := [g.d]) (rs := [g.d]) T1.g8 rfl rfl (fun e w_len harg => ?_) st
 have w_len : e.length = 25 := w_len
 have w_0 := harg 0 (by simp)
 clear harg
 simp only [List.map_cons, List.map_nil, List.getD_cons_zero] at w_0
 simp only [T1.i8, GoalT.d, w_len, w_0, ↓LA, LB, simprocAttr]
 refine z09 (fun e0 s0 m env st => ∃ (i nxi lwi : Nat) (si : List (Nat × Obj)) (xv : V), m = g.args.length - i ∧ (i ≤ g.args.length) ∧ (Gr si false 7 0 nxi 2 true xv ((g.args.take i).map TreeT.d)) ∧ sget si (0) = some (.cells [.d (.str g.rel), .d (.sl (g.args.map TreeT.d))]) ∧ sget si (1) = some (.cells [.d (.str []), .nilS]) ∧ sget si (5) = some (.cells [.d (.str g.rel), xv]) ∧ 7 ≤ nxi ∧ 0 ≤ lwi ∧ env.length = 25 ∧ env.getD 12 .undef = .d (.int .i64 i) ∧ env.getD 1 .undef = .ptr 0 0 ∧ env.getD 2 .undef = .ptr 1 0 ∧ env.getD 3 .undef = .ptr 5 0 ∧ env.getD 10 .undef = .d (.sl (g.args.map TreeT.d)) ∧ env.getD 11 .undef = .d (.int .i64 g.args.length) ∧ st = { s := si, next := nxi, low := lwi }) ?_ (g.args.length) (by refine ⟨0, _, _, _, .nilS, rfl, by omega, Gr.nil, ?_, ?_, ?_, (by omega), Nat.zero_le _, ?_, ?_, ?_, ?_, ?_, ?_, ?_, rfl⟩ <;> simp only [w_len, LB, simprocAttr])
 rintro m env st ⟨i, nxi, lwi, si, xv, hm, a_0, a_1, w_ac0, w_ac1, w_ac2, w_ab, w_alo, w_len, w_12, w_1, w_2, w_3, w_10, w_11, rfl⟩
 have w_aN := And.intro (cf1 (x := nxi) (a := 0) (by omega)) (And.intro (cf1 (x := nxi) (a := 1) (by omega)) (cf1 (x := nxi) (a := 5) (by omega)))
 have w_aS := And.intro (cf2 (x := nxi) (by omega) w_ac0) (And.intro (cf2 (x := nxi) (by omega) w_ac1) (cf2 (x := nxi) (by omega) w_ac2))
 have w_aZ := zf0 (x := nxi) (n := 7) (by omega)
 have w_a_1V := And.intro (a_1.away (j := 0) (by omega)) (And.intro (a_1.away (j := 1) (by omega)) (a_1.away (j := 5) (by omega)))
 have w_a_1c := a_1.cell.1
 have w_a_1d := a_1.cell.2
 have w_a_1e := a_1.beq
 by_cases hi : i < g.args.length
 ·have hD := fun st => zly (hk _ (List.getElem_mem hi)).1 (hk _ (List.getElem_mem hi)).2 st
  simp only [TreeT.d] at hD
  simp only [hi, z19 hi, hD, w_len, w_12, w_3, w_10, w_11, w_ac2, w_aN, w_a_1e, ↓LA, LB, simprocAttr]
  refine z3z a_1 ?_ (z0h fun a => z1k) z01 ?_ ?_ ?_ ?_ ?_ fun chc0 hc0 => ?_
  ·intro j h1 h2; simp (disch := omega) only [z00]
  ·rfl
  ·omega
  ·simp; omega
  ·simp; omega
  ·exact rfl
  simp only [z02 hi (by omega), w_len, w_12, w_3, w_ac2, w_aN, w_a_1V, ↓LA, LB, simprocAttr]
  have hn : (g.args.take (i + 1)).map TreeT.d = (g.args.take i).map TreeT.d ++ [g.args[i].d] := by rw [z16 hi, List.map_append]; rfl
  exact z08 (by refine ⟨_, by omega, i + 1, _, _, _, .arr (nxi + 10) 2 true 0 (((g.args.take i).map TreeT.d).length + 1), rfl, by omega, (by rw [hn]; exact z34 hc0 (by intro j h1 h2 h3; simp (disch := omega) only [z00, z04, z0d h3]) (by omega) (by omega) (by omega) z01 rfl ⟨CV.data, CV.int, trivial⟩), ?_, ?_, ?_, (by omega), Nat.zero_le _, ?_, ?_, ?_, ?_, ?_, ?_, ?_, rfl⟩ <;> simp only [w_len, w_1, w_2, w_3, w_10, w_11, w_ac0, w_ac1, w_ac2, w_aN, w_a_1V, LB, simprocAttr])
 ·have ht : g.args.take i = g.args := List.take_of_length_le (by omega)
  have hga := a_1
  rw [ht] at hga
  simp only [hi, w_len, w_12, w_2, w_3, w_11, w_ac1, w_ac2, w_aS, w_a_1c, ↓LA, LB, simprocAttr]
  refine rql1 (x := g.d) (z5w (lv := false) (lo := 7) (n := 1) (hi := nxi) (m := 11) (by omega) (by decide) ⟨CV.str, (hga.frame (by intro j h1 h2; simp (disch := omega) only [z04])).cv (by omega) (z0h fun a => z1k), trivial⟩) rfl
end Go.Lift.K
namespace Go.Lift.K
open Go Go.Lift
set_option maxRecDepth 100000
end Go.Lift.K
namespace Go.Lift.K
open Go Go.Lift
set_option maxRecDepth 100000
def zjd (x : PatT) : Prop := x.vars.length ≤ 1000000
def zb1 (l : List PatT) : Prop := l.length ≤ 1000000 ∧ ∀ x ∈ l, zjd x
def zcs (r : RulesT) : Prop := r.rels.length ≤ 1000000 ∧ r.clauses.length ≤ 1000000 ∧ ∀ c ∈ r.clauses, zb1 c.head ∧ zb1 c.body
theorem y02 {r : RulesT} (hk : zcs r) (st : St) : z05 G (.fn 7 [] []) [.d r.d] st = some (.d r.d, st) := by
 have hl := hk.2.1
 have hCl := fun st => zrq hk.1 st
 refine z0f (ds := [r.d]) (rs := [r.d]) T1.g7 rfl rfl (fun e w_len harg => ?_) st
 have w_len : e.length = 71 := w_len
 have w_0 := harg 0 (by simp)
 clear harg
 simp only [List.map_cons, List.map_nil, List.getD_cons_zero] at w_0
 simp only [T1.i7, RulesT.d, hCl, w_len, w_0, ↓LA, LB, simprocAttr]
 refine z09 (fun e0 s0 m env st => ∃ (i nxi lwi : Nat) (si : List (Nat × Obj)) (xv : V), m = r.clauses.length - i ∧ (i ≤ r.clauses.length) ∧ (Gr si false 8 1 nxi 3 true xv ((r.clauses.take i).map ClauseT.d)) ∧ sget si (0) = some (.cells [.d (.sl (r.rels.map RelT.d)), .d (.sl (r.clauses.map ClauseT.d))]) ∧ sget si (1) = some (.cells [.nilS, .nilS]) ∧ sget si (6) = some (.cells [.d (.sl (r.rels.map RelT.d)), xv]) ∧ 8 ≤ nxi ∧ 0 ≤ lwi ∧ env.length = 71 ∧ env.getD 18 .undef = .d (.int .i64 i) ∧ env.getD 1 .undef = .ptr 0 0 ∧ env.getD 2 .undef = .ptr 1 0 ∧ env.getD 3 .undef = .ptr 6 0 ∧ env.getD 16 .undef = .d (.sl (r.clauses.map ClauseT.d)) ∧ env.getD 17 .undef = .d (.int .i64 r.clauses.length) ∧ st = { s := si, next := nxi, low := lwi }) ?_ (r.clauses.length) (by refine ⟨0, _, _, _, .nilS, rfl, by omega, Gr.nil, ?_, ?_, ?_, (by omega), Nat.zero_le _, ?_, ?_, ?_, ?_, ?_, ?_, ?_, rfl⟩ <;> simp only [w_len, LB, simprocAttr])
 rintro m env st ⟨i, nxi, lwi, si, xv, hm, a_0, a_1, w_ac0, w_ac1, w_ac2, w_ab, w_alo, w_len, w_18, w_1, w_2, w_3, w_16, w_17, rfl⟩
 have w_aN := And.intro (cf1 (x := nxi) (a := 0) (by omega)) (And.intro (cf1 (x := nxi) (a := 1) (by omega)) (cf1 (x := nxi) (a := 6) (by omega)))
 have w_aS := And.intro (cf2 (x := nxi) (by omega) w_ac0) (And.intro (cf2 (x := nxi) (by omega) w_ac1) (cf2 (x := nxi) (by omega) w_ac2))
 have w_aZ := zf0 (x := nxi) (n := 8) (by omega)
 have w_a_1V := And.intro (a_1.away (j := 0) (by omega)) (And.intro (a_1.away (j := 1) (by omega)) (a_1.away (j := 6) (by omega)))
 have w_a_1c := a_1.cell.1
 have w_a_1d := a_1.cell.2
 have w_a_1e := a_1.beq
 by_cases hi : i < r.clauses.length
 ·have hs := hk.2.2 _ (List.getElem_mem hi)
  have hs1 := hs.1.1
  have hs2 := hs.2.1
  simp only [hi, z2a hi, w_len, w_18, w_16, w_17, ↓LA, LB, simprocAttr]
  refine z09 (fun e0 s0 m env st => ∃ (k nxk lwk : Nat) (sk : List (Nat × Obj)) (xw : V), m = r.clauses[i].head.length - k ∧ (k ≤ r.clauses[i].head.length) ∧ (Gr sk false (nxi + 14) 0 nxk 2 true xw ((r.clauses[i].head.take k).map PatT.d)) ∧ (Gr sk false 8 1 nxi 3 true xv ((r.clauses.take i).map ClauseT.d)) ∧ sget sk (0) = some (.cells [.d (.sl (r.rels.map RelT.d)), .d (.sl (r.clauses.map ClauseT.d))]) ∧ sget sk (1) = some (.cells [.nilS, .nilS]) ∧ sget sk (6) = some (.cells [.d (.sl (r.rels.map RelT.d)), xv]) ∧ sget sk (nxi + 3) = some (.cells [.d (.str r.clauses[i].rel), .d (.sl (r.clauses[i].head.map PatT.d)), .d (.sl (r.clauses[i].body.map PatT.d))]) ∧ sget sk (nxi + 8) = some (.cells [.d (.str r.clauses[i].rel), xw, .nilS]) ∧ nxi + 14 ≤ nxk ∧ 0 ≤ lwk ∧ env.length = 71 ∧ env.getD 28 .undef = .d (.int .i64 k) ∧ env.getD 1 .undef = .ptr 0 0 ∧ env.getD 2 .undef = .ptr 1 0 ∧ env.getD 3 .undef = .ptr 6 0 ∧ env.getD 5 .undef = .ptr (nxi + 3) 0 ∧ env.getD 6 .undef = .ptr (nxi + 8) 0 ∧ env.getD 16 .undef = .d (.sl (r.clauses.map ClauseT.d)) ∧ env.getD 17 .undef = .d (.int .i64 r.clauses.length) ∧ env.getD 18 .undef = .d (.int .i64 i) ∧ env.getD 26 .undef = .d (.sl (r.clauses[i].head.map PatT.d)) ∧ env.getD 27 .undef = .d (.int .i64 r.clauses[i].head.length) ∧ st = { s := sk, next := nxk, low := lwk }) ?_ (r.clauses[i].head.length) (by refine ⟨0, _, _, _, .nilS, rfl, by omega, Gr.nil, a_1.frame (by intro j h1 h2; simp (disch := omega) only [z00]), ?_, ?_, ?_, ?_, ?_, (by omega), Nat.zero_le _, ?_, ?_, ?_, ?_, ?_, ?_, ?_, ?_, ?_, ?_, ?_, ?_, rfl⟩ <;> simp only [w_len, w_18, w_1, w_2, w_3, w_16, w_17, w_ac0, w_ac1, w_ac2, w_aN, LB, simprocAttr])
  rintro m env st ⟨k, nxk, lwk, sk, xw, hm, b_0, b_1, b_2, w_bc0, w_bc1, w_bc2, w_bc3, w_bc4, w_bb, w_blo, w_len, w_28, w_1, w_2, w_3, w_5, w_6, w_16, w_17, w_18, w_26, w_27, rfl⟩
  have w_bN := And.intro (cf1 (x := nxk) (a := 0) (by omega)) (And.intro (cf1 (x := nxk) (a := 1) (by omega)) (And.intro (cf1 (x := nxk) (a := 6) (by omega)) (And.intro (cf1 (x := nxk) (a := nxi + 3) (by omega)) (cf1 (x := nxk) (a := nxi + 8) (by omega)))))
  have w_bS := And.intro (cf2 (x := nxk) (by omega) w_bc0) (And.intro (cf2 (x := nxk) (by omega) w_bc1) (And.intro (cf2 (x := nxk) (by omega) w_bc2) (And.intro (cf2 (x := nxk) (by omega) w_bc3) (cf2 (x := nxk) (by omega) w_bc4))))
  have w_bZ := And.intro (zf (x := nxk) (b := nxi) (n := 14) (by omega) (by omega)) (zf0 (x := nxk) (n := 8) (by omega))
  have w_b_1V := And.intro (b_1.away (j := 0) (by omega)) (And.intro (b_1.away (j := 1) (by omega)) (And.intro (b_1.away (j := 6) (by omega)) (And.intro (b_1.away (j := nxi + 3) (by omega)) (b_1.away (j := nxi + 8) (by omega)))))
  have w_b_1c := b_1.cell.1
  have w_b_1d := b_1.cell.2
  have w_b_1e := b_1.beq
  have w_b_2V := And.intro (b_2.away (j := 0) (by omega)) (And.intro (b_2.away (j := 1) (by omega)) (And.intro (b_2.away (j := 6) (by omega)) (And.intro (b_2.away (j := nxi + 3) (by omega)) (b_2.away (j := nxi + 8) (by omega)))))
  have w_b_2c := b_2.cell.1
  have w_b_2d := b_2.cell.2
  have w_b_2e := b_2.beq
  by_cases hj : k < r.clauses[i].head.length
  ·have hD := fun st => zre (hs.1.2 _ (List.getElem_mem hj)) st
   simp only [hj, z0t hj, hD, w_len, w_28, w_6, w_26, w_27, w_bc4, w_bN, w_b_1e, ↓LA, LB, simprocAttr]
   refine z3z b_1 ?_ (z0h fun a => z4l) z01 ?_ ?_ ?_ ?_ ?_ fun chc0 hc0 => ?_
   ·intro j h1 h2; simp (disch := omega) only [z00]
   ·rfl
   ·omega
   ·simp; omega
   ·simp; omega
   ·exact rfl
   simp only [z02 hj (by omega), w_len, w_28, w_6, w_bc4, w_bN, w_b_1V, ↓LA, LB, simprocAttr]
   have hn : (r.clauses[i].head.take (k + 1)).map PatT.d = (r.clauses[i].head.take k).map PatT.d ++ [r.clauses[i].head[k].d] := by rw [z16 hj, List.map_append]; rfl
   exact z08 (by refine ⟨_, by omega, k + 1, _, _, _, .arr (nxk + 14) 2 true 0 (((r.clauses[i].head.take k).map PatT.d).length + 1), rfl, by omega, (by rw [hn]; exact z34 hc0 (by intro j h1 h2 h3; simp (disch := omega) only [z00, z04, z0d h3]) (by omega) (by omega) (by omega) z01 rfl ⟨CV.str, CV.data, trivial⟩), b_2.frame (by intro j h1 h2; simp (disch := omega) only [z00, z04, z0d (b_1.away (j := j) (by omega))]), ?_, ?_, ?_, ?_, ?_, (by omega), Nat.zero_le _, ?_, ?_, ?_, ?_, ?_, ?_, ?_, ?_, ?_, ?_, ?_, ?_, rfl⟩ <;> simp only [w_len, w_1, w_2, w_3, w_5, w_6, w_16, w_17, w_18, w_26, w_27, w_bc0, w_bc1, w_bc2, w_bc3, w_bc4, w_bN, w_aN, w_b_1V, LB, simprocAttr])
  ·have ht : r.clauses[i].head.take k = r.clauses[i].head := List.take_of_length_le (by omega)
   rw [ht] at b_1
   simp only [hj, w_len, w_28, w_5, w_27, w_bc3, ↓LA, LB, simprocAttr]
   refine z09 (fun e0 s0 m env st => ∃ (z nxz lwz : Nat) (sz : List (Nat × Obj)) (xz : V), m = r.clauses[i].body.length - z ∧ (z ≤ r.clauses[i].body.length) ∧ (Gr sz false (nxk + 5) 0 nxz 2 true xz ((r.clauses[i].body.take z).map PatT.d)) ∧ (Gr sz false 8 1 nxi 3 true xv ((r.clauses.take i).map ClauseT.d)) ∧ (Gr sz false (nxi + 14) 0 nxk 2 true xw (r.clauses[i].head.map PatT.d)) ∧ sget sz (0) = some (.cells [.d (.sl (r.rels.map RelT.d)), .d (.sl (r.clauses.map ClauseT.d))]) ∧ sget sz (1) = some (.cells [.nilS, .nilS]) ∧ sget sz (6) = some (.cells [.d (.sl (r.rels.map RelT.d)), xv]) ∧ sget sz (nxi + 3) = some (.cells [.d (.str r.clauses[i].rel), .d (.sl (r.clauses[i].head.map PatT.d)), .d (.sl (r.clauses[i].body.map PatT.d))]) ∧ sget sz (nxi + 8) = some (.cells [.d (.str r.clauses[i].rel), xw, xz]) ∧ nxk + 5 ≤ nxz ∧ 0 ≤ lwz ∧ env.length = 71 ∧ env.getD 47 .undef = .d (.int .i64 z) ∧ env.getD 1 .undef = .ptr 0 0 ∧ env.getD 2 .undef = .ptr 1 0 ∧ env.getD 3 .undef = .ptr 6 0 ∧ env.getD 5 .undef = .ptr (nxi + 3) 0 ∧ env.getD 6 .undef = .ptr (nxi + 8) 0 ∧ env.getD 16 .undef = .d (.sl (r.clauses.map ClauseT.d)) ∧ env.getD 17 .undef = .d (.int .i64 r.clauses.length) ∧ env.getD 18 .undef = .d (.int .i64 i) ∧ env.getD 45 .undef = .d (.sl (r.clauses[i].body.map PatT.d)) ∧ env.getD 46 .undef = .d (.int .i64 r.clauses[i].body.length) ∧ st = { s := sz, next := nxz, low := lwz }) ?_ (r.clauses[i].body.length) (by refine ⟨0, _, _, _, .nilS, rfl, by omega, Gr.nil, b_2.frame (by intro j h1 h2; simp (disch := omega) only [z00]), b_1.frame (by intro j h1 h2; simp (disch := omega) only [z00]), ?_, ?_, ?_, ?_, ?_, (by omega), Nat.zero_le _, ?_, ?_, ?_, ?_, ?_, ?_, ?_, ?_, ?_, ?_, ?_, ?_, rfl⟩ <;> simp only [w_len, w_1, w_2, w_3, w_5, w_6, w_16, w_17, w_18, w_bc0, w_bc1, w_bc2, w_bc3, w_bc4, LB, simprocAttr])
   rintro m env st ⟨z, nxz, lwz, sz, xz, hm, c_0, c_1, c_2, c_3, w_cc0, w_cc1, w_cc2, w_cc3, w_cc4, w_cb, w_clo, w_len, w_47, w_1, w_2, w_3, w_5, w_6, w_16, w_17, w_18, w_45, w_46, rfl⟩
   have w_cN := And.intro (cf1 (x := nxz) (a := 0) (by omega)) (And.intro (cf1 (x := nxz) (a := 1) (by omega)) (And.intro (cf1 (x := nxz) (a := 6) (by omega)) (And.intro (cf1 (x := nxz) (a := nxi + 3) (by omega)) (cf1 (x := nxz) (a := nxi + 8) (by omega)))))
   have w_cS := And.intro (cf2 (x := nxz) (by omega) w_cc0) (And.intro (cf2 (x := nxz) (by omega) w_cc1) (And.intro (cf2 (x := nxz) (by omega) w_cc2) (And.intro (cf2 (x := nxz) (by omega) w_cc3) (cf2 (x := nxz) (by omega) w_cc4))))
   have w_cZ := And.intro (zf (x := nxz) (b := nxk) (n := 5) (by omega) (by omega)) (And.intro (zf (x := nxz) (b := nxi) (n := 14) (by omega) (by omega)) (zf0 (x := nxz) (n := 8) (by omega)))
   have w_c_1V := And.intro (c_1.away (j := 0) (by omega)) (And.intro (c_1.away (j := 1) (by omega)) (And.intro (c_1.away (j := 6) (by omega)) (And.intro (c_1.away (j := nxi + 3) (by omega)) (c_1.away (j := nxi + 8) (by omega)))))
   have w_c_1c := c_1.cell.1
   have w_c_1d := c_1.cell.2
   have w_c_1e := c_1.beq
   have w_c_2V := And.intro (c_2.away (j := 0) (by omega)) (And.intro (c_2.away (j := 1) (by omega)) (And.intro (c_2.away (j := 6) (by omega)) (And.intro (c_2.away (j := nxi + 3) (by omega)) (c_2.away (j := nxi + 8) (by omega)))))
   have w_c_2c := c_2.cell.1
   have w_c_2d := c_2.cell.2
   have w_c_2e := c_2.beq
   have w_c_3V := And.intro (c_3.away (j := 0) (by omega)) (And.intro (c_3.away (j := 1) (by omega)) (And.intro (c_3.away (j := 6) (by omega)) (And.intro (c_3.away (j := nxi + 3) (by omega)) (c_3.away (j := nxi + 8) (by omega)))))
   have w_c_3c := c_3.cell.1
   have w_c_3d := c_3.cell.2
   have w_c_3e := c_3.beq
   by_cases hz : z < r.clauses[i].body.length
   ·have hD := fun st => zre (hs.2.2 _ (List.getElem_mem hz)) st
    simp only [hz, z0t hz, hD, w_len, w_47, w_6, w_45, w_46, w_cc4, w_cN, w_c_1e, w_c_3e, ↓LA, LB, simprocAttr]
    refine z3z c_1 ?_ (z0h fun a => z4l) z01 ?_ ?_ ?_ ?_ ?_ fun chc0 hc0 => ?_
    ·intro j h1 h2; simp (disch := omega) only [z00]
    ·rfl
    ·omega
    ·simp; omega
    ·simp; omega
    ·exact rfl
    simp only [z02 hz (by omega), w_len, w_47, w_6, w_cc4, w_cN, w_c_1V, ↓LA, LB, simprocAttr]
    have hn : (r.clauses[i].body.take (z + 1)).map PatT.d = (r.clauses[i].body.take z).map PatT.d ++ [r.clauses[i].body[z].d] := by rw [z16 hz, List.map_append]; rfl
    exact z08 (by refine ⟨_, by omega, z + 1, _, _, _, .arr (nxz + 14) 2 true 0 (((r.clauses[i].body.take z).map PatT.d).length + 1), rfl, by omega, (by rw [hn]; exact z34 hc0 (by intro j h1 h2 h3; simp (disch := omega) only [z00, z04, z0d h3]) (by omega) (by omega) (by omega) z01 rfl ⟨CV.str, CV.data, trivial⟩), c_2.frame (by intro j h1 h2; simp (disch := omega) only [z00, z04, z0d (c_1.away (j := j) (by omega))]), c_3.frame (by intro j h1 h2; simp (disch := omega) only [z00, z04, z0d (c_1.away (j := j) (by omega))]), ?_, ?_, ?_, ?_, ?_, (by omega), Nat.zero_le _, ?_, ?_, ?_, ?_, ?_, ?_, ?_, ?_, ?_, ?_, ?_, ?_, rfl⟩ <;> simp only [w_len, w_1, w_2, w_3, w_5, w_6, w_16, w_17, w_18, w_45, w_46, w_cc0, w_cc1, w_cc2, w_cc3, w_cc4, w_cN, w_aN, w_c_1V, LB, simprocAttr])
   ·have ht : r.clauses[i].body.take z = r.clauses[i].body := List.take_of_length_le (by omega)
    have hgc := c_1
    rw [ht] at hgc
    simp only [hz, w_len, w_47, w_3, w_6, w_46, w_cc2, w_cc4, w_c_1c, w_c_3c, ↓LA, LB, simprocAttr]
    refine z3z c_2 ?_ (z0h fun a => z6n) z01 ?_ ?_ ?_ ?_ ?_ fun chc0 hc0 => ?_
    ·intro j h1 h2; simp (disch := omega) only [z00]
    ·rfl
    ·omega
    ·simp; omega
    ·simp; omega
    ·simp only [List.all_cons, List.all_nil, zge, w_c_1c, w_c_3c, Bool.and_self]
    simp only [z02 hi (by omega), w_len, w_3, w_18, w_cc2, w_cN, w_c_2V, ↓LA, LB, simprocAttr]
    have hn : (r.clauses.take (i + 1)).map ClauseT.d = (r.clauses.take i).map ClauseT.d ++ [r.clauses[i].d] := by rw [z16 hi, List.map_append]; rfl
    exact z08 (by refine ⟨_, by omega, i + 1, _, _, _, .arr (nxz + 5) 3 true 0 (((r.clauses.take i).map ClauseT.d).length + 1), rfl, by omega, (by rw [hn]; exact z34 hc0 (by intro j h1 h2 h3; simp (disch := omega) only [z00, z04, z0d h3]) (by omega) (by omega) (by omega) z01 rfl ⟨CV.str, CV.lo (by omega) (CV.hi ((c_3.frame (by intro j h1 h2; simp (disch := omega) only [z00, z04, z0d (c_2.away (j := j) (by omega))])).cv (by omega) (z0h fun a => z4l)) (by omega)), CV.lo (by omega) (CV.hi ((hgc.frame (by intro j h1 h2; simp (disch := omega) only [z00, z04, z0d (c_2.away (j := j) (by omega))])).cv (by omega) (z0h fun a => z4l)) (by omega)), trivial⟩), ?_, ?_, ?_, (by omega), Nat.zero_le _, ?_, ?_, ?_, ?_, ?_, ?_, ?_, rfl⟩ <;> simp only [w_len, w_1, w_2, w_3, w_16, w_17, w_cc0, w_cc1, w_cc2, w_cN, w_c_2V, LB, simprocAttr])
 ·have ht : r.clauses.take i = r.clauses := List.take_of_length_le (by omega)
  have hga := a_1
  rw [ht] at hga
  simp only [hi, w_len, w_18, w_2, w_3, w_17, w_ac1, w_ac2, w_aS, w_a_1c, ↓LA, LB, simprocAttr]
  refine rql1 (x := r.d) (z5w (lv := false) (lo := 8) (n := 2) (hi := nxi) (m := 11) (by omega) (by decide) ⟨CV.data, (hga.frame (by intro j h1 h2; simp (disch := omega) only [z04])).cv (by omega) (z0h fun a => z6n), trivial⟩) rfl
end Go.Lift.K
