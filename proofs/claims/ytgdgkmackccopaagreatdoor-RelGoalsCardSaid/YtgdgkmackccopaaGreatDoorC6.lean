/- Part C6 of the proof. -/
import Derived.Test.YtgdgkmackccopaaGreatDoorC5
import Derived.Test.YtgdgkmackccopaaGreatDoorA7
set_option linter.all false
namespace Go.Lift.K
open Go Go.Lift Classical
set_option maxRecDepth 100000
theorem zvm {a b : List V} (ha : V.beqL a a = true) (hb : V.beqL b b = true) : V.beqL (a ++ b) (a ++ b) = true := by
 induction a with
 | nil => exact hb
 | cons x a ih =>
  simp only [List.cons_append, z44, Bool.and_eq_true] at ha ⊢
  exact ⟨ha.1, ih ha.2⟩
def cI (n : Int) : V := .d (.int .i64 n)
def gC3 (r : RulesT) (N : Nm) (gv sv cv : V) : List V := [.d (.sl (r.rels.map RelT.d)), .d (.sl (r.clauses.map ClauseT.d)), gv, sv, cv, .fn 55 [.ptr N.g 0] []]
structure P4 (r : RulesT) (N : Nm) (gv : V) (n0 n1 i : Nat) (rank : Int) (ks tot : Nat) (A B : List V) (SA SB : List D) (xu : V) (u : List Nat) (sO s : List (Nat × Obj)) (nx : Nat) : Prop where
 g : sget s N.g = some (.cells (gC3 r N gv (.arr ks 4 true 0 tot) .nilS))
 kv : sget s ks = some (.cells (A ++ (.d (.int .i64 0) :: .d (.int .i64 rank) :: xu :: .d (.int .i64 0) :: B)))
 al : A.length = i * 4
 tl : A.length + 4 + B.length = tot * 4
 a : CVs (CQ s false (fun q => n1 ≤ q ∧ q < nx ∧ q ≠ ks ∧ away xu q) 1) A SA
 b : CVs (CQ s false (fun q => n0 ≤ q ∧ q < n1) 1) B SB
 u : GP s false (fun q => n1 ≤ q ∧ q < nx ∧ q ≠ ks) 0 1 false xu (u.map intD)
 fr : ∀ q, q < n1 → q ≠ N.g → sget s q = sget sO q
 lt : N.g < n0 ∧ N.p < n0 ∧ n0 ≤ n1 ∧ n1 ≤ ks ∧ ks < nx ∧ N.g ≠ N.p
set_option maxHeartbeats 4000000 in
theorem zxz {r : RulesT} {N : Nm} {gv lv nv xu p : V} {n0 n1 i idx len ks tot nx lw c : Nat} {rank : Int} {A B : List V} {SA SB : List D} {u nums : List Nat} {sO s : List (Nat × Obj)} {E : List V} {Q : Ex → List V → St → Prop}
  (hidx : idx < len) (hlen : len ≤ 200000) (htot : tot ≤ 1000000) (hul : u.length ≤ 200000) (hnp : sget sO N.p = some (.cells [.ptr N.g 0])) (hgv : gv.isCell = true ∧ cellsV gv = [gv] ∧ V.beq gv gv = true)
  (hia : z0a 4 lv (idx : Int) = some p) (hld : ∀ nx lw, z1r { s := s, next := nx, low := lw } 4 true p = some (mkAgg [cI 1, cI 0, nv, cI c])) (hnv : CQ s false (fun q => n0 ≤ q ∧ q < n1) 1 nv (.sl (nums.map intD)))
  (w_len : E.length = 187) (w_7 : E.getD 7 .undef = .ptr N.p 0) (w_19 : E.getD 19 .undef = .d (.int .i64 (i : Nat))) (w_137 : E.getD 137 .undef = lv) (w_138 : E.getD 138 .undef = .d (.int .i64 (len : Nat))) (w_139 : E.getD 139 .undef = .d (.int .i64 (idx : Nat)))
  (h : P4 r N gv n0 n1 i rank ks tot A B SA SB xu u sO s nx)
  (hQ : ∀ e st ks' xu', e.length = 187 → (∀ l, l ≠ 22 → l < 139 → e.getD l .undef = E.getD l .undef) → e.getD 139 .undef = .d (.int .i64 ((idx + 1 : Nat) : Int)) → P4 r N gv n0 n1 i rank ks' (tot + 1) A (B ++ [cI 1, cI 0, nv, cI c]) SA (SB ++ [.int .i64 1, .int .i64 0, .sl (nums.map intD), .int .i64 (c : Nat)]) xu' (u ++ [tot]) sO st.s st.next → nx ≤ st.next → Q .nrm e st) :
  PC (z0i (z06 G) z0h none T1.q38_140 E { s := s, next := nx, low := lw }) Q .mk := by
 obtain ⟨w_g, w_kv, hal, htl, hA, hB, hu, hfr, l1, l2, l3, l4, l5, l6⟩ := h
 have w_p : sget s N.p = some (.cells [.ptr N.g 0]) := (hfr _ (by omega) (by omega)).trans hnp
 simp only [gC3] at w_g
 have w_nv := hnv.cell
 have w_nb := hnv.beq
 have w_gv := hgv
 have w_ub := hu.cell
 have w_ue := hu.beq
 obtain ⟨cs, hcs⟩ : ∃ cs, cs = A ++ (.d (.int .i64 0) :: .d (.int .i64 rank) :: xu :: .d (.int .i64 0) :: B) := ⟨_, rfl⟩
 have hcl : cs.length = tot * 4 := by rw [hcs]; simp; omega
 have hit : i < tot := by omega
 have hsi : z0a 4 (.arr ks 4 true 0 tot) (i : Int) = some (.ptr ks (i * 4)) := by
  simp only [z0a]
  rw [if_pos ⟨by omega, by omega, trivial⟩]
  simp
 have hc1 : (i * 4 + (2 + 1) ≤ cs.length) = True := eq_true (by omega)
 have hc2 : (cs.drop (i * 4 + 2)).take 1 = [xu] := by
  rw [hcs, ← hal, ← List.drop_drop, List.drop_left]
  rfl
 have hsp : ∀ x : V, cs.take (i * 4 + 2) ++ [x] ++ cs.drop (i * 4 + (2 + 1)) = A ++ (.d (.int .i64 0) :: .d (.int .i64 rank) :: x :: .d (.int .i64 0) :: B) := fun x => by
  have e1 : cs.take (i * 4 + 2) = A ++ [.d (.int .i64 0), .d (.int .i64 rank)] := by
   rw [hcs, ← hal, List.take_append, List.take_of_length_le (by omega), Nat.add_sub_cancel_left]
   rfl
  have e2 : cs.drop (i * 4 + (2 + 1)) = .d (.int .i64 0) :: B := by
   rw [hcs, ← hal, ← List.drop_drop, List.drop_left]
   rfl
  rw [e1, e2]
  simp
 have hcb : V.beqL cs cs = true := by
  rw [hcs]
  refine zvm (CVs.beq hA) ?_
  simp [z44, zel, D.beq_refl, w_ue, CVs.beq hB]
 have hfb : V.beq (.fn 55 [.ptr N.g 0] []) (.fn 55 [.ptr N.g 0] []) = true := by simp [V.beq, V.beqL]
 rw [← hcs] at w_kv
 have w_n : (∀ q, (nx + q = N.g) = False) ∧ (∀ q, (nx + q = N.p) = False) ∧ (∀ q, (nx + q = ks) = False) ∧ (nx = N.g) = False ∧ (nx = N.p) = False ∧ (nx = ks) = False ∧ (ks = N.g) = False ∧ (ks = N.p) = False ∧ (N.g = N.p) = False ∧ (N.g = ks) = False ∧ (∀ q, (ks = nx + q) = False) := by
  refine ⟨fun q => by simp; omega, fun q => by simp; omega, fun q => by simp; omega, by simp; omega, by simp; omega, by simp; omega, by simp; omega, by simp; omega, by simp; omega, by simp; omega, fun q => by simp; omega⟩
 unfold cI at hld
 simp only [hidx, hia, hld, hsi, hc1, hc2, hcb, hfb, w_len, w_7, w_19, w_137, w_138, w_139, w_g, w_kv, w_p, w_nv, w_gv, w_n, ↓LA, LB, simprocAttr]
 refine z52 hu ?_ (z0j z9c) z02 ?_ ?_ ?_ ?_ ?_ fun chx hx => ?_
 ·intro q hq; obtain ⟨g1, g2, g3⟩ := hq; simp (disch := omega) only [z00]
 ·rfl
 ·omega
 ·simp; omega
 ·simp; omega
 ·rfl
 have w_xw : away xu N.g ∧ away xu N.p ∧ away xu ks ∧ away xu (nx + 3) := ⟨hu.away (fun h => by have := h.1; omega), hu.away (fun h => by have := h.1; omega), hu.away (fun h => h.2.2 rfl), hu.away (fun h => by have := h.2.1; omega)⟩
 have w_ks : ∀ o, sget (sset s ks o) ks = some o := fun o => z04 w_kv
 simp only [hsi, hc1, hfb, hsp, w_len, w_7, w_g, w_kv, w_p, w_nv, w_gv, w_n, w_xw, ↓LA, LB, simprocAttr]
 have hx24 : ∀ z : List (Nat × Obj), sget ((nx + 24, Obj.cells (chx ++ [V.d (D.int IntKind.i64 (tot : Nat))])) :: z) (nx + 24) = some (.cells (chx ++ [V.d (D.int IntKind.i64 (tot : Nat))])) := fun z => z02
 generalize hX : ((nx + 34, Obj.cells [V.d (D.int IntKind.i64 1), V.d (D.int IntKind.i64 0), nv, V.d (D.int IntKind.i64 (c : Nat))]) :: (nx + 24, Obj.cells (chx ++ [V.d (D.int IntKind.i64 (tot : Nat))])) :: sset (grow xu ((nx + 23, Obj.cells [V.d (D.int IntKind.i64 (tot : Nat))]) :: (nx + 3, Obj.cells [V.d (D.int IntKind.i64 1), V.d (D.int IntKind.i64 0), nv, V.d (D.int IntKind.i64 (c : Nat))]) :: s)) ks (Obj.cells (A ++ V.d (D.int IntKind.i64 0) :: V.d (D.int IntKind.i64 rank) :: V.arr (nx + 24) 1 false 0 (u.length + 1) :: V.d (D.int IntKind.i64 0) :: B))) = X
 have x0 : ∀ q, q < nx → q ≠ ks → away xu q → sget X q = sget s q := fun q g1 g2 g3 => by rw [← hX]; simp (disch := omega) only [z00, z03, z07 g3]
 have x1 : sget X ks = some (.cells (A ++ V.d (D.int IntKind.i64 0) :: V.d (D.int IntKind.i64 rank) :: V.arr (nx + 24) 1 false 0 (u.length + 1) :: V.d (D.int IntKind.i64 0) :: B)) := by
  rw [← hX, z00 (by omega), z00 (by omega)]
  refine z04 (x := .cells cs) ?_
  rw [z07 w_xw.2.2.1, z00 (by omega), z00 (by omega)]
  exact w_kv
 have x2 : sget X (nx + 34) = some (.cells [V.d (D.int IntKind.i64 1), V.d (D.int IntKind.i64 0), nv, V.d (D.int IntKind.i64 (c : Nat))]) := by rw [← hX]; exact z02
 have x5 : sget X (nx + 24) = some (.cells (chx ++ [V.d (D.int IntKind.i64 (tot : Nat))])) := by rw [← hX, z00 (by omega)]; exact z02
 have w_x3 := (x0 N.g (by omega) (by omega) w_xw.1).trans w_g
 have w_x4 := (x0 N.p (by omega) (by omega) w_xw.2.1).trans w_p
 clear hX
 rw [zgb (n := tot) (m := 1) x1 x2 (by simp; omega) rfl (by simp only [List.all_cons, List.all_nil, zjy, w_nv.1, Bool.and_self]) (by omega) (by omega)]
 have w_sd : ∀ z j, (ks = j) = False → sget (sdel z ks) j = sget z j := fun z j h => zgv h
 simp only [z08 hidx (by omega), w_len, w_7, w_139, w_n, w_x3, w_x4, w_sd, ↓LA, LB, simprocAttr]
 have hP : ∀ (Y : List (Nat × Obj)), (∀ q, q ≠ nx + 35 → q ≠ N.g → q ≠ ks → sget Y q = sget X q) → sget Y N.g = some (.cells (gC3 r N gv (.arr (nx + 35) 4 true 0 (tot + 1)) .nilS)) → sget Y (nx + 35) = some (.cells (A ++ V.d (D.int IntKind.i64 0) :: V.d (D.int IntKind.i64 rank) :: V.arr (nx + 24) 1 false 0 (u.length + 1) :: V.d (D.int IntKind.i64 0) :: B ++ [V.d (D.int IntKind.i64 1), V.d (D.int IntKind.i64 0), nv, V.d (D.int IntKind.i64 (c : Nat))])) → ∀ n', nx + 39 ≤ n' →
   P4 r N gv n0 n1 i rank (nx + 35) (tot + 1) A (B ++ [cI 1, cI 0, nv, cI c]) SA (SB ++ [.int .i64 1, .int .i64 0, .sl (nums.map intD), .int .i64 (c : Nat)]) (.arr (nx + 24) 1 false 0 (u.length + 1)) (u ++ [tot]) sO Y n' := fun Y hY hYg hYk n' hn' => by
  have aw1 : ∀ q, q < n1 → away xu q := fun q hq => hu.away (fun h => by have := h.1; omega)
  have y0 : ∀ q, q < nx → q ≠ N.g → q ≠ ks → away xu q → sget Y q = sget s q := fun q g1 g2 g3 g4 => (hY q (by omega) g2 g3).trans (x0 q g1 g3 g4)
  have y1 : ∀ q, q < n1 → q ≠ N.g → sget Y q = sget s q := fun q g1 g2 => y0 q (by omega) g2 (by omega) (aw1 q g1)
  refine ⟨hYg, by rw [hYk]; simp [cI], hal, by simp; omega, ?_, CVs.append ?_ ⟨CQ.int, CQ.int, hnv.frame fun q hq => y1 q hq.2 (by have := hq.1; omega), CQ.int, trivial⟩, ?_, fun q g1 g2 => (y1 q g1 g2).trans (hfr q g1 g2), l1, l2, l3, by omega, by omega, l6⟩
  ·exact hA.imp fun v d hv => (hv.frame fun q hq => y0 q hq.2.1 (by have := hq.1; omega) hq.2.2.1 hq.2.2.2).mono fun q hq => ⟨hq.1, by have := hq.2.1; omega, by have := hq.2.1; omega, by show ¬ _ = _; have := hq.2.1; omega⟩
  ·exact hB.imp fun v d hv => hv.frame fun q hq => y1 q hq.2 (by have := hq.1; omega)
  ·exact zdp [intD tot] hx ⟨by omega, by omega, by omega⟩ ((hY _ (by omega) (by omega) (by omega)).trans x5) (by simp) (by simp) ⟨CQ.int, trivial⟩
 refine hQ _ _ _ _ (by simp only [w_len, LB, simprocAttr]) (by intro l g1 g2; simp (disch := omega) only [z0f]) (by simp only [w_len, LB, simprocAttr]) (hP _ ?_ ?_ z02 _ (by show nx + 39 ≤ nx + _; omega)) (by show nx ≤ nx + _; omega)
 ·intro q g1 g2 g3
  rw [z00 (by omega), z03 (by omega), z0y (by omega)]
 ·rw [z00 (by omega)]
  exact z04 (by rw [z0y (by omega)]; exact w_x3)
end Go.Lift.K
namespace Go.Lift.K
open Go Go.Lift Classical
set_option maxRecDepth 100000
theorem ze2 {R : V → D → Prop} : ∀ {n : Nat} {cs : List V} {ds : List D}, CVs R cs ds → CVs R (cs.drop n) (ds.drop n)
 | 0, _, _, h => h
 | _ + 1, [], [], _ => trivial
 | _ + 1, [], _ :: _, h => h.elim
 | _ + 1, _ :: _, [], h => h.elim
 | n + 1, _ :: _, _ :: _, h => ze2 (n := n) h.2
theorem zkj {R : V → D → Prop} : ∀ {n : Nat} {cs : List V} {ds : List D}, CVs R cs ds → CVs R (cs.take n) (ds.take n)
 | 0, _, _, _ => trivial
 | _ + 1, [], [], _ => trivial
 | _ + 1, [], _ :: _, h => h.elim
 | _ + 1, _ :: _, [], h => h.elim
 | n + 1, _ :: _, _ :: _, h => ⟨h.1, zkj (n := n) h.2⟩
theorem zkl {s : List (Nat × Obj)} {lv : Bool} {S : Nat → Prop} {n : Nat} {v : V} {k : IntKind} {x : Int} (h : CQ s lv S n v (.int k x)) : v = .d (.int k x) := by
 cases n with
 | zero => exact h.1
 | succ n => rcases h with h | ⟨_, h⟩ | ⟨_, _, _, _, _, _, h, _⟩ <;> first | exact h.1 | cases h
theorem znn : ∀ {l : List SpotT} {j : Nat} (h : j < l.length), (((l.map SpotT.d).flatMap cellsD).drop (j * 4)).take 4 = [.int .i64 (l[j].owner : Nat), .int .i64 l[j].rank, .sl (l[j].next.map intD), .int .i64 (l[j].clause : Nat)]
 | t :: l, 0, _ => rfl
 | t :: l, j + 1, h => by
  have h' : j < l.length := by simp at h; omega
  have h2 := znn h'
  have e : (j + 1) * 4 = j * 4 + 1 + 1 + 1 + 1 := by omega
  have e2 : (((t :: l).map SpotT.d).flatMap cellsD) = .int .i64 (t.owner : Nat) :: .int .i64 t.rank :: .sl (t.next.map intD) :: .int .i64 (t.clause : Nat) :: ((l.map SpotT.d).flatMap cellsD) := rfl
  rw [e2, e, List.drop_succ_cons, List.drop_succ_cons, List.drop_succ_cons, List.drop_succ_cons, h2]
  rfl
theorem zt3 {l : List SpotT} : ((l.map SpotT.d).flatMap cellsD).length = l.length * 4 := by
 have := (z27 (ds := l.map SpotT.d) (z0j zdy)).2
 simpa using this
theorem y0p {s : List (Nat × Obj)} {S : Nat → Prop} {wv : V} {w : List SpotT} (h : CQ s false S 2 wv (.sl (w.map SpotT.d))) : opLen false wv = some w.length := by
 rcases h with ⟨rfl, _⟩ | ⟨rfl | rfl, e⟩ | ⟨k, es, ag, cs, ds, rfl, e, _⟩
 ·rw [zjl, List.length_map]
 ·cases w with
  | nil => rfl
  | cons x w => simp at e
 ·cases w with
  | nil => rfl
  | cons x w => simp at e
 ·injection e with e
  rw [zhj, ← e, List.length_map]
theorem y0z {s : List (Nat × Obj)} {S : Nat → Prop} {wv : V} {w : List SpotT} (h : CQ s false S 2 wv (.sl (w.map SpotT.d))) {j : Nat} (hj : j < w.length) :
  ∃ p nv, z0a 4 wv (j : Int) = some p ∧ (∀ nx lw, z1r { s := s, next := nx, low := lw } 4 true p = some (mkAgg [cI (w[j].owner : Nat), cI w[j].rank, nv, cI (w[j].clause : Nat)])) ∧ CQ s false S 1 nv (.sl (w[j].next.map intD)) := by
 rcases h with ⟨rfl, _⟩ | ⟨_, e⟩ | ⟨k, es, ag, cs, ds, rfl, e, h3, h4, h5, h6, h7⟩
 ·refine ⟨.dptr [.int .i64 (w[j].owner : Nat), .int .i64 w[j].rank, .sl (w[j].next.map intD), .int .i64 (w[j].clause : Nat)], .d (.sl (w[j].next.map intD)), z24 hj rfl, fun _ _ => rfl, CQ.data⟩
 ·cases w with
  | nil => simp at hj
  | cons x w => simp at e
 ·injection e with e
  subst e
  have he : es = 4 := by
   have := h6 w[j].d (List.mem_map.2 ⟨_, List.getElem_mem hj, rfl⟩)
   rcases this with ⟨_, c, e1, e2, _⟩ | ⟨_, _, e1⟩
   ·unfold SpotT.d at e1
    injection e1 with e1
    rw [← e2, ← e1]
    rfl
   ·simp [SpotT.d, D.isCell] at e1
  subst he
  have hl := CVs.length h7
  rw [zt3] at hl
  have hc := zkj (n := 4) (ze2 (n := j * 4) h7)
  rw [znn hj] at hc
  obtain ⟨a, b, c, d, hcs, k1, k2, k3, k4⟩ : ∃ a b c d, (cs.drop (j * 4)).take 4 = [a, b, c, d] ∧ CQ s false S 1 a (.int .i64 (w[j].owner : Nat)) ∧ CQ s false S 1 b (.int .i64 w[j].rank) ∧ CQ s false S 1 c (.sl (w[j].next.map intD)) ∧ CQ s false S 1 d (.int .i64 (w[j].clause : Nat)) := by
   cases hq : (cs.drop (j * 4)).take 4 with
   | nil => rw [hq] at hc; exact hc.elim
   | cons a l =>
    cases l with
    | nil => rw [hq] at hc; exact hc.2.elim
    | cons b l =>
     cases l with
     | nil => rw [hq] at hc; exact hc.2.2.elim
     | cons c l =>
      cases l with
      | nil => rw [hq] at hc; exact hc.2.2.2.elim
      | cons d l =>
       cases l with
       | cons _ _ => rw [hq] at hc; exact hc.2.2.2.2.elim
       | nil => rw [hq] at hc; exact ⟨a, b, c, d, rfl, hc.1, hc.2.1, hc.2.2.1, hc.2.2.2.1⟩
  have q1 := zkl k1
  have q2 := zkl k2
  have q4 := zkl k4
  subst q1 q2 q4
  refine ⟨.ptr k (j * 4), c, ?_, fun nx lw => ?_, k3⟩
  ·rw [List.length_map]
   simp only [z0a]
   rw [if_pos ⟨by omega, by omega, trivial⟩]
   simp
  ·have h4' : ({ s := s, next := nx, low := lw } : St).cells? k = some cs := by simp [St.cells?, scells, h4]
   simp only [z1r, h4', hcs]
   rw [if_pos (by omega)]
   rfl
theorem y24 {s : List (Nat × Obj)} {S : Nat → Prop} {cv : V} {W : List (List SpotT)} (h : GP s false S 2 1 false cv (W.map fun w => D.sl (w.map SpotT.d))) {i : Nat} (hi : i < W.length) :
  ∃ kc cs wv, S kc ∧ sget s kc = some (.cells cs) ∧ z0a 1 cv (i : Int) = some (.ptr kc i) ∧ (i + 1 ≤ cs.length) = True ∧ (cs.drop i).take 1 = [wv] ∧ CQ s false S 2 wv (.sl (W[i].map SpotT.d)) := by
 rcases h with ⟨_, e⟩ | ⟨k, cs, rfl, h1, h2, h3⟩
 ·cases W with
  | nil => simp at hi
  | cons x W => simp at e
 ·have hfm : (W.map fun w => D.sl (w.map SpotT.d)).flatMap cellsD = W.map fun w => D.sl (w.map SpotT.d) := by
   clear h3 hi
   induction W with
   | nil => rfl
   | cons x W ih => rw [List.map_cons, List.flatMap_cons, ih]; rfl
  rw [hfm] at h3
  have hl := CVs.length h3
  rw [List.length_map] at hl
  have hc := ze2 (n := i) h3
  have hcs : cs.drop i = cs[i] :: cs.drop (i + 1) := List.drop_eq_getElem_cons (by omega)
  have hds : (W.map fun w => D.sl (w.map SpotT.d)).drop i = .sl (W[i].map SpotT.d) :: (W.map fun w => D.sl (w.map SpotT.d)).drop (i + 1) := by
   rw [List.drop_eq_getElem_cons (by simpa using hi)]
   simp
  rw [hcs, hds] at hc
  refine ⟨k, cs, cs[i], h1, h2, ?_, eq_true (by omega), by rw [hcs]; rfl, hc.1.mono fun q hq => hq.1⟩
  rw [List.length_map]
  simp only [z0a]
  rw [if_pos ⟨by omega, by omega, trivial⟩]
  simp
def zc (rk : Nat → Int) (n i : Nat) : List V := (List.range' i (n - i)).flatMap fun j => [cI 0, cI (rk j), .nilS, cI 0]
def zd (rk : Nat → Int) (n i : Nat) : List D := (List.range' i (n - i)).flatMap fun j => [.int .i64 0, .int .i64 (rk j), .sl [], .int .i64 0]
theorem zn0 {rk : Nat → Int} {n i : Nat} (h : i < n) : zc rk n i = cI 0 :: cI (rk i) :: .nilS :: cI 0 :: zc rk n (i + 1) := by
 unfold zc
 rw [show n - i = (n - (i + 1)) + 1 by omega, List.range'_succ, List.flatMap_cons]
 rfl
theorem zmz {rk : Nat → Int} {n i : Nat} (h : i < n) : zd rk n i = .int .i64 0 :: .int .i64 (rk i) :: .sl [] :: .int .i64 0 :: zd rk n (i + 1) := by
 unfold zd
 rw [show n - i = (n - (i + 1)) + 1 by omega, List.range'_succ, List.flatMap_cons]
 rfl
theorem zw1 {rk : Nat → Int} {n : Nat} : zc rk n n = [] ∧ zd rk n n = [] := by simp [zc, zd]
def offW (n : Nat) (W : List (List SpotT)) (i : Nat) : Nat := n + (W.take i).flatten.length
def gSp (rk : Nat → Int) (n : Nat) (W : List (List SpotT)) (i : Nat) : SpotT := ⟨0, rk i, List.range' (offW n W i) (W.getD i []).length, 0⟩
theorem za6 {n : Nat} {W : List (List SpotT)} {i : Nat} (h : i < W.length) : offW n W (i + 1) = offW n W i + W[i].length := by
 unfold offW
 rw [List.take_add_one, List.getElem?_eq_getElem h]
 simp only [Option.toList_some, List.flatten_append, List.length_append, List.flatten_cons, List.flatten_nil, List.append_nil]
 omega
def spD (l : List SpotT) : List D := (l.map SpotT.d).flatMap cellsD
theorem zgu {l m : List SpotT} : spD (l ++ m) = spD l ++ spD m := by simp [spD]
theorem zy0 {x : SpotT} : spD [x] = [.int .i64 (x.owner : Nat), .int .i64 x.rank, .sl (x.next.map intD), .int .i64 (x.clause : Nat)] := rfl
structure P3 (r : RulesT) (N : Nm) (gv : V) (n0 n1 i : Nat) (rk : Nat → Int) (n : Nat) (W : List (List SpotT)) (ks : Nat) (A C : List V) (sO s : List (Nat × Obj)) (nx : Nat) : Prop where
 g : sget s N.g = some (.cells (gC3 r N gv (.arr ks 4 true 0 (offW n W i)) .nilS))
 kv : sget s ks = some (.cells (A ++ (zc rk n i ++ C)))
 al : A.length = i * 4
 tl : A.length + (zc rk n i ++ C).length = offW n W i * 4
 a : CVs (CQ s false (fun q => n1 ≤ q ∧ q < nx ∧ q ≠ ks) 1) A (spD ((List.range i).map (gSp rk n W)))
 b : CVs (CQ s false (fun q => n0 ≤ q ∧ q < n1) 1) (zc rk n i ++ C) (zd rk n i ++ spD (W.take i).flatten)
 fr : ∀ q, q < n1 → q ≠ N.g → sget s q = sget sO q
 lt : N.g < n0 ∧ N.p < n0 ∧ n0 ≤ n1 ∧ n1 ≤ ks ∧ ks < nx ∧ N.g ≠ N.p
theorem P3.up {r : RulesT} {N : Nm} {gv : V} {n0 n1 i n ks : Nat} {rk : Nat → Int} {W : List (List SpotT)} {A C : List V} {sO s : List (Nat × Obj)} {nx nx' : Nat} (h : P3 r N gv n0 n1 i rk n W ks A C sO s nx) (hn : nx ≤ nx') : P3 r N gv n0 n1 i rk n W ks A C sO s nx' := by
 obtain ⟨h1, h2, h3, h4, h5, h6, h7, l1, l2, l3, l4, l5, l6⟩ := h
 exact ⟨h1, h2, h3, h4, h5.imp fun v d hv => hv.mono fun q hq => ⟨hq.1, by have := hq.2.1; omega, hq.2.2⟩, h6, h7, l1, l2, l3, l4, by omega, l6⟩
theorem P3.toP4 {r : RulesT} {N : Nm} {gv : V} {n0 n1 i n ks : Nat} {rk : Nat → Int} {W : List (List SpotT)} {A C : List V} {sO s : List (Nat × Obj)} {nx nx' : Nat} (h : P3 r N gv n0 n1 i rk n W ks A C sO s nx) (hi : i < n) (hn : nx ≤ nx') :
  P4 r N gv n0 n1 i (rk i) ks (offW n W i) A (zc rk n (i + 1) ++ C) (spD ((List.range i).map (gSp rk n W))) (zd rk n (i + 1) ++ spD (W.take i).flatten) .nilS [] sO s nx' := by
 obtain ⟨h1, h2, h3, h4, h5, h6, h7, l1, l2, l3, l4, l5, l6⟩ := h.up hn
 rw [zn0 hi] at h2 h4 h6
 rw [zmz hi] at h6
 exact ⟨h1, h2, h3, by simp only [List.cons_append, List.length_cons] at h4; omega, h5.imp fun v d hv => hv.mono fun q hq => ⟨hq.1, hq.2.1, hq.2.2, trivial⟩, h6.2.2.2.2, GP.nil, h7, l1, l2, l3, l4, l5, l6⟩
theorem P4.toP3 {r : RulesT} {N : Nm} {gv xu : V} {n0 n1 i n ks : Nat} {rk : Nat → Int} {W : List (List SpotT)} {A C : List V} {sO s : List (Nat × Obj)} {nx nx' : Nat} (hi : i < W.length) (hn : nx ≤ nx')
  (h : P4 r N gv n0 n1 i (rk i) ks (offW n W i + W[i].length) A (zc rk n (i + 1) ++ C) (spD ((List.range i).map (gSp rk n W))) (zd rk n (i + 1) ++ spD ((W.take i).flatten ++ W[i])) xu (List.range' (offW n W i) W[i].length) sO s nx) :
  P3 r N gv n0 n1 (i + 1) rk n W ks (A ++ [cI 0, cI (rk i), xu, cI 0]) C sO s nx' := by
 obtain ⟨h1, h2, h3, h4, h5, h6, h7, h8, l1, l2, l3, l4, l5, l6⟩ := h
 have hf : (W.take (i + 1)).flatten = (W.take i).flatten ++ W[i] := by
  rw [List.take_add_one, List.getElem?_eq_getElem hi]
  simp only [Option.toList_some, List.flatten_append, List.flatten_cons, List.flatten_nil, List.append_nil]
 have hsp : spD ((List.range (i + 1)).map (gSp rk n W)) = spD ((List.range i).map (gSp rk n W)) ++ [.int .i64 0, .int .i64 (rk i), .sl ((List.range' (offW n W i) W[i].length).map intD), .int .i64 0] := by
  rw [List.range_succ, List.map_append, zgu]
  congr 1
  simp [spD, gSp, SpotT.d, cellsD, hi]
 refine ⟨by rw [za6 hi]; exact h1, by rw [h2]; simp [cI], by simp; omega, ?_, ?_, ?_, h8, l1, l2, l3, l4, by omega, l6⟩
 ·rw [za6 hi]
  simp only [List.length_append, List.length_cons, List.length_nil] at h4 ⊢
  omega
 ·rw [hsp]
  refine CVs.append (h5.imp fun v d hv => hv.mono fun q hq => ⟨hq.1, by have := hq.2.1; omega, hq.2.2.1⟩) ⟨CQ.int, CQ.int, ?_, CQ.int, trivial⟩
  exact (h7.cv (by omega) (z0j z9c)).mono fun q hq => ⟨hq.1, by have := hq.2.1; omega, hq.2.2⟩
 ·rw [hf]; exact h6
def z70 (rk : Nat → Int) (n : Nat) (W : List (List SpotT)) : List SpotT := (List.range n).map (gSp rk n W) ++ W.flatten
structure Game (r : RulesT) (N : Nm) (L : List GoalT) (sp : List SpotT) (s : List (Nat × Obj)) (n0 nx : Nat) : Prop where
 ex : ∃ (gv sv : V) (kv : Nat), sget s N.g = some (.cells (gC3 r N gv sv (.arr kv 1 false 0 sp.length))) ∧ GP s false (fun q => q < nx ∧ q ≠ N.g ∧ q ≠ kv) 0 2 true gv (L.map GoalT.d) ∧
  GP s false (fun q => q < nx ∧ q ≠ N.g ∧ q ≠ kv) 1 4 true sv (sp.map SpotT.d) ∧ sget s kv = some (.cells (scs (List.replicate sp.length (intD 0)))) ∧ kv ≠ N.g ∧ kv < nx
set_option maxHeartbeats 4000000 in
theorem y1h {r : RulesT} {N : Nm} {gv cv : V} {n0 n1 n ks nx lw : Nat} {rk : Nat → Int} {L : List GoalT} {W : List (List SpotT)} {C : List V} {sO s : List (Nat × Obj)} {E : List V} {Q : Ex → List V → St → Prop}
  (hn : W.length = n) (hn1 : n ≤ 1000) (hWl : W.flatten.length ≤ 100000) (hW1 : ∀ w ∈ W, ∀ x ∈ w, x.owner = 1 ∧ x.rank = 0) (hnp : sget sO N.p = some (.cells [.ptr N.g 0])) (hnc : sget sO N.c = some (.cells [cv])) (hNc : N.c < n0 ∧ N.c ≠ N.g)
  (hgv : GP sO false (fun q => q < n1 ∧ q ≠ N.g) 0 2 true gv (L.map GoalT.d)) (hcv : GP sO false (fun q => n0 ≤ q ∧ q < n1) 2 1 false cv (W.map fun w => D.sl (w.map SpotT.d)))
  (w_len : E.length = 187) (w_7 : E.getD 7 .undef = .ptr N.p 0) (w_10 : E.getD 10 .undef = .ptr N.c 0)
  (h : P3 r N gv n0 n1 0 rk n W ks [] C sO s nx)
  (hQ : ∀ e st, e.getD 4 .undef = .ptr N.g 0 → e.getD 5 .undef = .d (.int .i64 0) → Game r N L (z70 rk n W) st.s n0 st.next → (∀ q, q < n1 → q ≠ N.g → sget st.s q = sget sO q) → nx ≤ st.next → Q .ret e st) :
  PC (z0i (z06 G) z0h none T1.q38_130 E { s := s, next := nx, low := lw }) Q .mk := by
 obtain ⟨R, hR⟩ : ∃ R : IC, R = T1.q38_177 := ⟨_, rfl⟩
 obtain ⟨l1, l2, l3, l4, l5, l6⟩ := h.lt
 have w_c : sget s N.c = some (.cells [cv]) := (h.fr _ (by omega) hNc.2).trans hnc
 have hcl : opLen false cv = some W.length := by rw [hcv.len, List.length_map]
 unfold T1.q38_130
 rw [← hR]
 simp only [hcl, w_len, w_10, w_c, ↓LA, LB, simprocAttr]
 refine z0e (fun e0 s0 m env st => ∃ (i nxi lwi : Nat) (si : List (Nat × Obj)) (ksi : Nat) (A Ci : List V), m = W.length - i ∧ (i ≤ W.length) ∧ (P3 r N gv n0 n1 i rk n W ksi A Ci sO si nxi) ∧ nx ≤ nxi ∧ 0 ≤ lwi ∧ env.length = 187 ∧ env.getD 132 .undef = .d (.int .i64 i) ∧ env.getD 7 .undef = .ptr N.p 0 ∧ env.getD 130 .undef = cv ∧ env.getD 131 .undef = .d (.int .i64 W.length) ∧ st = { s := si, next := nxi, low := lwi }) ?_ (W.length) (by refine ⟨0, _, _, _, ks, [], C, rfl, by omega, (h.up (by omega)), (by omega), Nat.zero_le _, ?_, ?_, ?_, ?_, ?_, rfl⟩ <;> simp only [w_len, w_7, LB, simprocAttr])
 rintro m env st ⟨i, nxi, lwi, si, ksi, A, Ci, hm, i_0, i_1, w_ib, w_ilo, w_len, w_132, w_7, w_130, w_131, rfl⟩
 by_cases hi : i < W.length
 ·obtain ⟨kc, cs, wv, hS, hkc, hia, hle, hta, hwv⟩ := y24 hcv hi
  have hwl := y0p hwv
  have w_kc : sget si kc = some (.cells cs) := (i_1.fr _ hS.2 (by have := hS.1; omega)).trans hkc
  have hin : i < n := by omega
  have hofl : offW n W i + W[i].length ≤ 110000 := by
   have h1 : (W.take (i + 1)).flatten.length ≤ W.flatten.length := by
    conv => rhs; rw [← List.take_append_drop (i + 1) W, List.flatten_append, List.length_append]
    omega
   rw [← za6 hi]
   unfold offW
   omega
  simp only [hi, hia, hle, hta, hwl, w_len, w_132, w_130, w_131, w_kc, ↓LA, LB, simprocAttr]
  refine z0e (fun e0 s0 m env st => ∃ (j nxj lwj : Nat) (sj : List (Nat × Obj)) (ksj : Nat) (xu : V) (Cj : List V), m = W[i].length - j ∧ (j ≤ W[i].length) ∧ (P4 r N gv n0 n1 i (rk i) ksj (offW n W i + j) A (zc rk n (i + 1) ++ Cj) (spD ((List.range i).map (gSp rk n W))) (zd rk n (i + 1) ++ spD ((W.take i).flatten ++ W[i].take j)) xu (List.range' (offW n W i) j) sO sj nxj) ∧ nxi ≤ nxj ∧ 0 ≤ lwj ∧ env.length = 187 ∧ env.getD 139 .undef = .d (.int .i64 j) ∧ env.getD 7 .undef = .ptr N.p 0 ∧ env.getD 19 .undef = .d (.int .i64 (i : Nat)) ∧ env.getD 130 .undef = cv ∧ env.getD 131 .undef = .d (.int .i64 W.length) ∧ env.getD 132 .undef = .d (.int .i64 (i : Nat)) ∧ env.getD 137 .undef = wv ∧ env.getD 138 .undef = .d (.int .i64 W[i].length) ∧ st = { s := sj, next := nxj, low := lwj }) ?_ (W[i].length) (by refine ⟨0, _, _, _, ksi, .nilS, Ci, rfl, by omega, (by rw [List.take_zero, List.append_nil]; exact i_1.toP4 hin (by omega)), (by omega), Nat.zero_le _, ?_, ?_, ?_, ?_, ?_, ?_, ?_, ?_, ?_, rfl⟩ <;> simp only [w_len, w_132, w_7, w_130, w_131, LB, simprocAttr])
  rintro m env st ⟨j, nxj, lwj, sj, ksj, xu, Cj, hm, j_0, j_1, w_jb, w_jlo, w_len, w_139, w_7, w_19, w_130, w_131, w_132, w_137, w_138, rfl⟩
  by_cases hj : j < W[i].length
  ·obtain ⟨p, nv, hpa, hpl, hnv⟩ := y0z (hwv.frame (s' := sj) fun q hq => j_1.fr q hq.2 (by have := hq.1; omega)) hj
   obtain ⟨e1, e2⟩ := hW1 _ (List.getElem_mem hi) _ (List.getElem_mem hj)
   rw [e1, e2] at hpl
   refine zxz hj (by omega) (by omega) (by rw [List.length_range']; omega) hnp ⟨hgv.cell.1, hgv.cell.2, hgv.beq⟩ hpa hpl hnv w_len w_7 w_19 w_137 w_138 w_139 j_1 ?_
   intro e st ks' xu' w_len hE w_139 hP hn2
   obtain ⟨s2, n2, lw2⟩ := st
   have hn2 : nxj ≤ n2 := hn2
   have w_7 : e.getD 7 .undef = _ := (hE 7 (by omega) (by omega)).trans w_7
   have w_19 : e.getD 19 .undef = _ := (hE 19 (by omega) (by omega)).trans w_19
   have w_130 : e.getD 130 .undef = _ := (hE 130 (by omega) (by omega)).trans w_130
   have w_131 : e.getD 131 .undef = _ := (hE 131 (by omega) (by omega)).trans w_131
   have w_132 : e.getD 132 .undef = _ := (hE 132 (by omega) (by omega)).trans w_132
   have w_137 : e.getD 137 .undef = _ := (hE 137 (by omega) (by omega)).trans w_137
   have w_138 : e.getD 138 .undef = _ := (hE 138 (by omega) (by omega)).trans w_138
   simp only [↓LA, simprocAttr]
   have hfin : P4 r N gv n0 n1 i (rk i) ks' (offW n W i + (j + 1)) A (zc rk n (i + 1) ++ (Cj ++ [cI 1, cI 0, nv, cI (W[i][j].clause : Nat)])) (spD ((List.range i).map (gSp rk n W))) (zd rk n (i + 1) ++ spD ((W.take i).flatten ++ W[i].take (j + 1))) xu' (List.range' (offW n W i) (j + 1)) sO s2 n2 := by
    have q1 : List.range' (offW n W i) (j + 1) = List.range' (offW n W i) j ++ [offW n W i + j] := List.range'_1_concat
    have q2 : zd rk n (i + 1) ++ spD ((W.take i).flatten ++ W[i].take (j + 1)) = zd rk n (i + 1) ++ spD ((W.take i).flatten ++ W[i].take j) ++ [.int .i64 1, .int .i64 0, .sl (W[i][j].next.map intD), .int .i64 (W[i][j].clause : Nat)] := by
     rw [List.take_add_one, List.getElem?_eq_getElem hj]
     simp only [Option.toList_some, zgu, zy0, e1, e2, List.append_assoc]
     rfl
    rw [q1, q2, ← List.append_assoc]
    exact hP
   exact z0c (by refine ⟨_, by omega, j + 1, _, _, _, ks', xu', Cj ++ [cI 1, cI 0, nv, cI (W[i][j].clause : Nat)], rfl, by omega, hfin, (by omega), Nat.zero_le _, ?_, ?_, ?_, ?_, ?_, ?_, ?_, ?_, ?_, rfl⟩ <;> simp only [w_len, w_139, w_7, w_19, w_130, w_131, w_132, w_137, w_138, simprocAttr])
  ·have hje : j = W[i].length := by omega
   simp only [hj, z08 hi (by omega), w_len, w_139, w_132, w_138, ↓LA, LB, simprocAttr]
   have hfin : ∀ n', nxj ≤ n' → P3 r N gv n0 n1 (i + 1) rk n W ksj (A ++ [cI 0, cI (rk i), xu, cI 0]) Cj sO sj n' := fun n' hn' => by
    have j_1' := j_1
    rw [hje, List.take_length] at j_1'
    exact P4.toP3 hi hn' j_1'
   exact z0c (by refine ⟨_, by omega, i + 1, _, _, _, ksj, A ++ [cI 0, cI (rk i), xu, cI 0], Cj, rfl, by omega, hfin _ (by omega), (by omega), Nat.zero_le _, ?_, ?_, ?_, ?_, ?_, rfl⟩ <;> simp only [w_len, w_7, w_130, w_131, LB, simprocAttr])
 ·have hie : i = n := by omega
  have i_2 := i_1
  rw [hie] at i_2
  obtain ⟨h1, h2, h3, h4, h5, h6, h7, _, _, _, k4, k5, _⟩ := i_2
  rw [zw1.1, List.nil_append] at h2 h4 h6
  rw [zw1.2, List.nil_append] at h6
  obtain ⟨tot, htot⟩ : ∃ tot, tot = offW n W n := ⟨_, rfl⟩
  have htl : tot = n + W.flatten.length := by rw [htot, offW, ← hn, List.take_length]
  rw [← htot] at h1 h4
  have w_g := h1
  simp only [gC3] at w_g
  have w_p : sget si N.p = some (.cells [.ptr N.g 0]) := (h7 _ (by omega) (by omega)).trans hnp
  have w_gv : gv.isCell = true ∧ cellsV gv = [gv] := hgv.cell
  have w_n : (∀ q, (nxi + q = N.g) = False) ∧ (∀ q, (nxi + q = N.p) = False) ∧ (nxi = N.g) = False ∧ (nxi = N.p) = False ∧ (∀ o, sget (sset si N.g o) N.g = some o) ∧ (N.g = N.p) = False ∧ (N.p = N.g) = False := ⟨fun q => by simp; omega, fun q => by simp; omega, by simp; omega, by simp; omega, fun o => z04 h1, by simp; omega, by simp; omega⟩
  have hmk : ∀ key st, z61 key 1 false 8 [.d (.int .i64 0)] (.d (.int .i64 (tot : Nat))) (.d (.int .i64 (tot : Nat))) st = some (.arr key 1 false 0 tot, st.ins key (.cells (scs (List.replicate tot (.int .i64 0))))) := fun key st => zey rfl (by omega) (by omega)
  rw [hR]
  simp only [hi, hmk, T1.q38_177, w_len, w_132, w_7, w_131, w_g, w_p, w_n, ↓LA, LB, simprocAttr]
  have hG : ∀ Y : List (Nat × Obj), (∀ q, q < nxi → q ≠ N.g → sget Y q = sget si q) → sget Y N.g = some (.cells (gC3 r N gv (.arr ksi 4 true 0 tot) (.arr (nxi + 7) 1 false 0 tot))) → sget Y (nxi + 7) = some (.cells (scs (List.replicate tot (.int .i64 0)))) → ∀ n', nxi + 11 ≤ n' → Game r N L (z70 rk n W) Y n0 n' := fun Y hY hYg hYk n' hn' => by
   have hsl : (z70 rk n W).length = tot := by rw [htl]; simp [z70]
   refine ⟨gv, .arr ksi 4 true 0 tot, nxi + 7, by rw [hsl]; exact hYg, ?_, ?_, by rw [hsl]; exact hYk, by omega, by omega⟩
   ·exact (hgv.frame fun q hq => (hY q (by omega) hq.2).trans (h7 q hq.1 hq.2)).mono fun q hq => ⟨by have := hq.1; omega, hq.2, by have := hq.1; omega⟩
   ·refine .inr ⟨ksi, A ++ Ci, by rw [List.length_map, hsl], ⟨by omega, by omega, by omega⟩, (hY _ k5 (by omega)).trans h2, ?_⟩
    show CVs _ _ (spD (z70 rk n W))
    unfold z70
    rw [zgu]
    refine CVs.append (h5.imp fun v d hv => (hv.frame fun q hq => hY q hq.2.1 (by have := hq.1; omega)).mono fun q hq => ⟨⟨by have := hq.2.1; omega, by have := hq.1; omega, by have := hq.2.1; omega⟩, hq.2.2⟩) ?_
    rw [← hn, List.take_length] at h6
    exact h6.imp fun v d hv => (hv.frame fun q hq => hY q (by have := hq.2; omega) (by have := hq.1; omega)).mono fun q hq => ⟨⟨by have := hq.2; omega, by have := hq.1; omega, by have := hq.2; omega⟩, by have := hq.2; omega⟩
  refine hQ _ _ (by simp only [w_len, LB, simprocAttr]) (by simp only [w_len, LB, simprocAttr]) (hG _ (fun q g1 g2 => ?_) ?_ z02 _ (by show nxi + 11 ≤ nxi + _; omega)) (fun q g1 g2 => ?_) (by show nx ≤ nxi + _; omega)
  ·rw [z00 (by omega), z03 (by omega)]
  ·rw [z00 (by omega)]
   exact z04 h1
  ·show sget ((nxi + 7, _) :: sset si N.g _) q = _
   rw [z00 (by omega), z03 (by omega)]
   exact h7 q g1 g2
end Go.Lift.K
namespace Go.Lift.K
open Go Go.Lift Classical
set_option maxRecDepth 100000
def zof (r : RulesT) (g : GoalT) : Int := match r.rels.find? (isR g.rel) with
 | some x => x.rank
 | none => 0
def rkL (r : RulesT) (L : List GoalT) (j : Nat) : Int := zof r (L.getD j ⟨[], []⟩)
theorem y14 {r : RulesT} {g : GoalT} (h : Rg r g) : ∃ i, ∃ hi : i < r.rels.length, z5g r.rels g.rel = i ∧ r.rels[i].rank = zof r g := by
 obtain ⟨hc, x, hf, ha, _⟩ := z1g h.1
 obtain ⟨i, hi, hi2, hi3⟩ := List.find?_eq_some_iff_getElem.1 hf |>.2
 have e : x.name = g.rel := by simpa [isR] using List.find?_some hf
 refine ⟨i, hi, z7i hi (fun y hy => by
  obtain ⟨j, hj, rfl⟩ := List.mem_iff_getElem.1 hy
  rw [List.length_take] at hj
  rw [List.getElem_take]
  have := hi3 j (by omega)
  simpa using this) (by rw [hi2]; simpa [isR] using e), ?_⟩
 unfold zof
 rw [hf, hi2]
theorem zx0 : ∀ {l : List GoalT} {j : Nat} (h : j < l.length), j * 2 + 2 ≤ (((l.map GoalT.d).flatMap cellsD).map V.d).length ∧ ((((l.map GoalT.d).flatMap cellsD).map V.d).drop (j * 2)).take 2 = [.d (.str l[j].rel), .d (.sl (l[j].args.map TreeT.d))]
 | t :: l, 0, _ => ⟨by simp [GoalT.d, cellsD], rfl⟩
 | t :: l, j + 1, h => by
  have h' : j < l.length := by simp at h; omega
  obtain ⟨h1, h2⟩ := zx0 h'
  have e : (j + 1) * 2 = j * 2 + 1 + 1 := by omega
  have e2 : (((t :: l).map GoalT.d).flatMap cellsD).map V.d = V.d (.str t.rel) :: V.d (.sl (t.args.map TreeT.d)) :: (((l.map GoalT.d).flatMap cellsD).map V.d) := rfl
  rw [e2, e]
  refine ⟨by simp only [List.length_cons]; omega, ?_⟩
  rw [List.drop_succ_cons, List.drop_succ_cons, h2]
  rfl
theorem zwz {s : List (Nat × Obj)} {lv : Bool} {S : Nat → Prop} {v : V} {l : List GoalT} (h : GP s lv S 0 2 true v (l.map GoalT.d)) {j : Nat} (hj : j < l.length) :
  ∃ k cs, S k ∧ v = .arr k 2 true 0 l.length ∧ sget s k = some (.cells cs) ∧ z0a 2 v (j : Int) = some (.ptr k (j * 2)) ∧ (j * 2 + 2 ≤ cs.length) = True ∧ (cs.drop (j * 2)).take 2 = [.d (.str l[j].rel), .d (.sl (l[j].args.map TreeT.d))] := by
 rcases h with ⟨_, e⟩ | ⟨k, cs, rfl, h1, h2, h3⟩
 ·cases l with
  | nil => simp at hj
  | cons x l => simp at e
 ·have e := zv8 h3
  subst e
  obtain ⟨k1, k2⟩ := zx0 hj
  refine ⟨k, _, h1, by simp, h2, ?_, eq_true k1, k2⟩
  rw [List.length_map]
  simp only [z0a]
  rw [if_pos ⟨by omega, by omega, trivial⟩]
  simp
def SvC (s : List (Nat × Obj)) (lo hi : Nat) (v : V) (cs : List V) (i : Nat) : Prop := (v = .nilS ∧ cs = [] ∧ i = 0) ∨ ∃ k, v = .arr k 4 true 0 i ∧ lo ≤ k ∧ k < hi ∧ sget s k = some (.cells cs)
theorem SvC.away {s : List (Nat × Obj)} {lo hi i : Nat} {v : V} {cs : List V} (h : SvC s lo hi v cs i) {q : Nat} (hq : q < lo ∨ hi ≤ q) : Go.Lift.away v q := by
 rcases h with ⟨rfl, _⟩ | ⟨k, rfl, h1, h2, _⟩
 ·trivial
 ·show ¬ k = q
  omega
theorem SvC.cell {s : List (Nat × Obj)} {lo hi i : Nat} {v : V} {cs : List V} (h : SvC s lo hi v cs i) : v.isCell = true ∧ cellsV v = [v] ∧ V.beq v v = true := by
 rcases h with ⟨rfl, _⟩ | ⟨k, rfl, _⟩
 ·exact ⟨rfl, rfl, z4y⟩
 ·exact ⟨rfl, rfl, z43⟩
theorem SvC.app {s z : List (Nat × Obj)} {lo hi i nx lw key k1 : Nat} {v : V} {cs ys : List V} (h : SvC s lo hi v cs i) (hs : ∀ q, lo ≤ q → q < hi → sget z q = sget s q) (hl : cs.length = i * 4) (h1 : sget z k1 = some (.cells ys)) (hy : ys.length = 4) (hc : ys.all V.isCell = true) (hi : i ≤ 100000) :
  z12 { s := z, next := nx, low := lw } key 4 true 48 v (.arr k1 4 true 0 1) = some (.arr key 4 true 0 (i + 1), { s := (key, .cells (cs ++ ys)) :: grow v z, next := nx, low := z8u v lw }) := by
 rcases h with ⟨rfl, rfl, rfl⟩ | ⟨k, rfl, h2, h3, h4⟩
 ·have hr := ze9 (nx := nx) (lw := lw) (ag := true) (n := 1) (es := 4) h1 (by omega)
  simp only [z12, hr]
  rw [if_neg (by omega), if_pos ⟨by omega, by omega, hc⟩]
  rfl
 ·rw [zgb (n := i) (m := 1) ((hs k h2 h3).trans h4) h1 hl (by omega) hc (by omega) (by omega)]
  rfl
def zr (rk : Nat → Int) (i : Nat) : List V := (List.range i).flatMap fun j => [cI 0, cI (rk j), .nilS, cI 0]
theorem zmw {rk : Nat → Int} {i : Nat} : zr rk (i + 1) = zr rk i ++ [cI 0, cI (rk i), .nilS, cI 0] := by simp [zr, List.range_succ]
theorem zmx {rk : Nat → Int} : ∀ {i : Nat}, (zr rk i).length = i * 4
 | 0 => rfl
 | i + 1 => by rw [zmw, List.length_append, zmx]; simp; omega
theorem y0l {rk : Nat → Int} {n : Nat} : zr rk n = zc rk n 0 := by unfold zr zc; rw [List.range_eq_range', Nat.sub_zero]
theorem y0m {s : List (Nat × Obj)} {S : Nat → Prop} {rk : Nat → Int} {n : Nat} : ∀ {m i : Nat}, n - i = m → CVs (CQ s false S 1) (zc rk n i) (zd rk n i)
 | 0, i, h => by simp [zc, zd, h, CVs]
 | m + 1, i, h => by
  rw [zn0 (by omega), zmz (by omega)]
  exact ⟨CQ.int, CQ.int, CQ.nil, CQ.int, y0m (m := m) (by omega)⟩
set_option maxHeartbeats 4000000 in
theorem y1i {r : RulesT} (hr : r.ok) {N : Nm} {gv cv : V} {n0 nx lw b2 : Nat} {L : List GoalT} {es : List (D × V)} {W : List (List SpotT)} {s : List (Nat × Obj)} {E : List V} {Q : Ex → List V → St → Prop}
  (hN : N.ok n0) (hn0 : n0 ≤ nx) (hb2 : b2 < n0 ∧ b2 ≠ N.g) (hsb : sget s b2 = some (.cells [.d (.sl (r.rels.map RelT.d)), .d (.sl (r.clauses.map ClauseT.d))])) (h : Og1 r N gv L es s nx) (hL : ∀ x ∈ L, Rg r x) (hL0 : 0 < L.length) (hL1 : L.length ≤ 1000)
  (hn : W.length = L.length) (hWl : W.flatten.length ≤ 100000) (hW1 : ∀ w ∈ W, ∀ x ∈ w, x.owner = 1 ∧ x.rank = 0) (hnc : sget s N.c = some (.cells [cv])) (hcv : GP s false (fun q => n0 ≤ q ∧ q < nx) 2 1 false cv (W.map fun w => D.sl (w.map SpotT.d)))
  (w_len : E.length = 187) (w_2 : E.getD 2 .undef = .ptr b2 0) (w_7 : E.getD 7 .undef = .ptr N.p 0) (w_10 : E.getD 10 .undef = .ptr N.c 0)
  (hQ : ∀ e st, e.getD 4 .undef = .ptr N.g 0 → e.getD 5 .undef = .d (.int .i64 0) → Game r N L (z70 (rkL r L) L.length W) st.s n0 st.next → (∀ q, q < nx → q ≠ N.g → sget st.s q = sget s q) → nx ≤ st.next → Q .ret e st) :
  PC (z0i (z06 G) z0h none T1.q38_100 E { s := s, next := nx, low := lw }) Q .mk := by
 obtain ⟨R, hR⟩ : ∃ R : IC, R = T1.q38_130 := ⟨_, rfl⟩
 obtain ⟨l1, l2, l3, l4, l5, l6⟩ := hN.lt
 have a1 := hN.g
 have w_p := h.p
 have w_g : sget s N.g = some (.cells [.d (.sl (r.rels.map RelT.d)), .d (.sl (r.clauses.map ClauseT.d)), gv, .nilS, .nilS, .fn 55 [.ptr N.g 0] []]) := h.g
 have w_b := hsb
 have hgl : opLen false gv = some L.length := by rw [h.hg.len, List.length_map]
 have hgvS : GP s false (fun q => q < nx ∧ q ≠ N.g) 0 2 true gv (L.map GoalT.d) := h.hg.mono fun q hq => ⟨Classical.byContradiction fun e => hq (h.gn q (by omega)), fun e => hq (e ▸ h.ga.1)⟩
 have w_gv := hgvS.cell
 have w_gb := hgvS.beq
 have hfb : V.beq (.fn 55 [.ptr N.g 0] []) (.fn 55 [.ptr N.g 0] []) = true := by simp [V.beq, V.beqL]
 have hNo := fun st name => z76 hr.1.1 (name := name) st
 simp only [RulesT.d] at hNo
 unfold T1.q38_100
 rw [← hR]
 simp only [hgl, w_len, w_7, w_p, w_g, ↓LA, LB, simprocAttr]
 refine z0e (fun e0 s0 m env st => ∃ (i nxi lwi : Nat) (si : List (Nat × Obj)) (sv : V), m = L.length - i ∧ (i ≤ L.length) ∧ (SvC si nx nxi sv (zr (rkL r L) i) i) ∧ ((∀ q, q < nx → q ≠ N.g → sget si q = sget s q)) ∧ sget si (N.g) = some (.cells [.d (.sl (r.rels.map RelT.d)), .d (.sl (r.clauses.map ClauseT.d)), gv, sv, .nilS, .fn 55 [.ptr N.g 0] []]) ∧ nx ≤ nxi ∧ 0 ≤ lwi ∧ env.length = 187 ∧ env.getD 105 .undef = .d (.int .i64 i) ∧ env.getD 2 .undef = .ptr b2 0 ∧ env.getD 7 .undef = .ptr N.p 0 ∧ env.getD 10 .undef = .ptr N.c 0 ∧ env.getD 103 .undef = gv ∧ env.getD 104 .undef = .d (.int .i64 L.length) ∧ st = { s := si, next := nxi, low := lwi }) ?_ (L.length) (by refine ⟨0, _, _, _, .nilS, rfl, by omega, .inl ⟨rfl, rfl, rfl⟩, (fun q _ _ => rfl), ?_, (by omega), Nat.zero_le _, ?_, ?_, ?_, ?_, ?_, ?_, ?_, rfl⟩ <;> simp only [w_len, w_2, w_7, w_10, w_g, LB, simprocAttr])
 rintro m env st ⟨i, nxi, lwi, si, sv, hm, i_0, i_1, i_2, w_ic0, w_ib, w_ilo, w_len, w_105, w_2, w_7, w_10, w_103, w_104, rfl⟩
 have w_iN := cf1 (x := nxi) (a := N.g) (by omega)
 have w_iS := cf2 (x := nxi) (by omega) w_ic0
 have w_b2 := (i_2 b2 (by omega) hb2.2).trans hsb
 have w_p2 := (i_2 N.p (by omega) (fun e => a1.1 e.symm)).trans w_p
 have w_sv := i_1.cell
 have w_nn : (∀ q, (nxi + q = N.g) = False) ∧ (∀ q, (nxi + q = N.p) = False) ∧ (∀ q, (nxi + q = b2) = False) ∧ (nxi = N.g) = False ∧ (nxi = N.p) = False ∧ (nxi = b2) = False ∧ (N.g = N.p) = False ∧ (N.p = N.g) = False := ⟨fun q => by simp; omega, fun q => by simp; omega, fun q => by simp; omega, by simp; omega, by simp; omega, by simp; omega, by simp; omega, by simp; omega⟩
 by_cases hi : i < L.length
 ·obtain ⟨kg, cs, hkS, hkv, hkc, hia, hle, hta⟩ := zwz hgvS hi
  have hrg := hL _ (List.getElem_mem hi)
  obtain ⟨z, hz, hz1, hz2⟩ := y14 hrg
  have hrk : rkL r L i = r.rels[z].rank := by rw [hz2]; simp [rkL, hi]
  have hir := z23 hz
  have w_kg : sget si kg = some (.cells cs) := (i_2 kg hkS.1 hkS.2).trans hkc
  simp only [hi, hia, hle, hta, hNo, hz1, hir, hfb, w_len, w_105, w_2, w_7, w_103, w_104, w_ic0, w_iN, w_b2, w_p2, w_sv, w_nn, w_gb, w_kg, ↓LA, LB, simprocAttr]
  rw [i_1.app (fun q g1 g2 => by rw [z00 (by omega), z00 (by omega)]) zmx z02 rfl rfl (by omega)]
  have w_av : away sv N.g ∧ away sv N.p ∧ away sv b2 := ⟨i_1.away (.inl (by omega)), i_1.away (.inl (by omega)), i_1.away (.inl (by omega))⟩
  simp only [z08 hi (by omega), w_len, w_105, w_7, w_ic0, w_iN, w_p2, w_nn, w_av, ↓LA, LB, simprocAttr]
  exact z0c (by refine ⟨_, by omega, i + 1, _, _, _, .arr (nxi + 22) 4 true 0 (i + 1), rfl, by omega, .inr ⟨nxi + 22, rfl, by omega, by omega, by rw [zmw, hrk]; exact z02⟩, (by intro q g1 g2; simp (disch := omega) only [z00, z03, z07 (i_1.away (.inl g1))]; exact i_2 q g1 g2), ?_, (by omega), Nat.zero_le _, ?_, ?_, ?_, ?_, ?_, ?_, ?_, rfl⟩ <;> simp only [w_len, w_2, w_7, w_10, w_103, w_104, w_ic0, w_iN, w_av, LB, simprocAttr])
 ·have hie : i = L.length := by omega
  simp only [hi, w_len, w_105, w_104, ↓LA, LB, simprocAttr]
  rw [hR]
  rw [hie] at i_1
  rcases i_1 with ⟨_, _, e⟩ | ⟨ks, rfl, k1, k2, k3⟩
  ·omega
  have hzl := zmx (rk := rkL r L) (i := L.length)
  have hnc2 := (i_2 N.c (by omega) (fun e => a1.2.2.2.2 e.symm)).trans hnc
  refine y1h (rk := rkL r L) (n := L.length) (n1 := nx) (n0 := n0) (ks := ks) (C := []) (sO := si) (L := L) (W := W) (gv := gv) (cv := cv) (r := r) (N := N) hn hL1 hWl hW1 w_p2 hnc2 ⟨l6, fun e => a1.2.2.2.2 e.symm⟩ (hgvS.frame fun q hq => i_2 q hq.1 hq.2) (hcv.frame fun q hq => i_2 q hq.2 (by have := hq.1; omega)) (by simp only [w_len, LB, simprocAttr]) (by simp only [w_7, LB, simprocAttr]) (by simp only [w_10, LB, simprocAttr]) ?_ ?_
  ·have ho : offW L.length W 0 = L.length := by simp [offW]
   refine ⟨by rw [ho]; exact w_ic0, by rw [k3, y0l]; simp, rfl, by rw [ho, ← y0l]; simp [hzl], by simp [spD, CVs], ?_, fun _ _ _ => rfl, l1, l2, hn0, k1, by show ks < nxi + _; omega, a1.1⟩
   have := y0m (s := si) (S := fun q => n0 ≤ q ∧ q < nx) (rk := rkL r L) (n := L.length) (i := 0) rfl
   simpa [spD] using this
  ·intro e st h4 h5 hG hf hn2
   exact hQ e st h4 h5 hG (fun q g1 g2 => (hf q g1 g2).trans (i_2 q g1 g2)) (Nat.le_trans (Nat.le_trans w_ib (Nat.le_add_right _ _)) hn2)
end Go.Lift.K
