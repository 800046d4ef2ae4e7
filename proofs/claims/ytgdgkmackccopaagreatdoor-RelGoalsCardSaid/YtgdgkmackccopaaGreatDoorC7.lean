/- Part C7 of the proof. -/
import Derived.Test.YtgdgkmackccopaaGreatDoorC6
import Derived.Test.YtgdgkmackccopaaGreatDoorA7
import Derived.Test.YtgdgkmackccopaaGreatDoorB3
import Derived.Test.YtgdgkmackccopaaGreatDoorB6
import Derived.Test.YtgdgkmackccopaaGreatDoorB7
set_option linter.all false
namespace Go.Lift.K
open Go Go.Lift Classical
set_option maxRecDepth 100000
structure Ph (r : RulesT) (N : Nm) (n0 ib i : Nat) (gv cv : V) (W : List (List SpotT)) (L : List GoalT) (es : List (D × V)) (s : List (Nat × Obj)) (nx : Nat) : Prop where
 o : Og1 r N gv L es s nx
 cc : sget s N.c = some (.cells [cv])
 ii : sget s ib = some (.cells [.d (.int .i64 (i : Nat))])
 w : GP s false (fun q => n0 ≤ q ∧ q < nx ∧ away gv q) 2 1 false cv (W.map fun w => D.sl (w.map SpotT.d))
 wl : W.length = i
 ga : away gv ib ∧ away cv ib
 lt : n0 ≤ ib ∧ ib < nx ∧ n0 ≤ nx
theorem zv2 : ∀ w : List SpotT, Elt 1 false (D.sl (w.map SpotT.d)) := fun w => .inr ⟨rfl, rfl, rfl⟩
set_option maxHeartbeats 4000000 in
theorem y3s {r : RulesT} {N : Nm} {gv cv : V} {n0 ib i nx lw : Nat} {L : List GoalT} {es : List (D × V)} {W : List (List SpotT)} {s : List (Nat × Obj)} {E : List V} {Q : Ex → List V → St → Prop}
  (hN : N.ok n0) (h : Ph r N n0 ib i gv cv W L es s nx) (hL : ∀ x ∈ L, Rg r x) (hi : i < L.length) (hL1 : L.length ≤ 300)
  (w_len : E.length = 187) (w_7 : E.getD 7 .undef = .ptr N.p 0) (w_9 : E.getD 9 .undef = .ptr N.f 0) (w_10 : E.getD 10 .undef = .ptr N.c 0) (w_11 : E.getD 11 .undef = .ptr ib 0)
  (hQ1 : (lAt r L[i] L r.clauses.length).length ≤ 300 → ∀ e st ib' gv' cv' es', e.length = 187 → (∀ l, l < 11 → e.getD l .undef = E.getD l .undef) → e.getD 11 .undef = .ptr ib' 0 → Ph r N n0 ib' (i + 1) gv' cv' (W ++ [(z25 r L[i] r.clauses.length).map (z2u (lAt r L[i] L r.clauses.length))]) (lAt r L[i] L r.clauses.length) es' st.s st.next → (∀ q, q < n0 → q ≠ N.g → q ≠ N.m → q ≠ N.c → away gv q → sget st.s q = sget s q) → (∀ q, q < nx → away gv q → away gv' q) → nx ≤ st.next → Q .nrm e st)
  (hQ2 : 300 < (lAt r L[i] L r.clauses.length).length → ∀ e st, e.getD 4 .undef = .nilP → e.getD 5 .undef = .d (.int .i64 9) → (∀ q, q < n0 → q ≠ N.g → q ≠ N.m → q ≠ N.c → away gv q → sget st.s q = sget s q) → nx ≤ st.next → Q .ret e st) :
  PC (z0i (z06 G) z0h none T1.q38_43 E { s := s, next := nx, low := lw }) Q .mk := by
 obtain ⟨R, hR⟩ : ∃ R : IC, R = T1.q38_93 := ⟨_, rfl⟩
 obtain ⟨l1, l2, l3, l4, l5, l6⟩ := hN.lt
 have a1 := hN.g
 have a2 := hN.p
 obtain ⟨b1, b2, b3⟩ := h.lt
 have w_p := h.o.p
 have w_g : sget s N.g = some (.cells [.d (.sl (r.rels.map RelT.d)), .d (.sl (r.clauses.map ClauseT.d)), gv, .nilS, .nilS, .fn 55 [.ptr N.g 0] []]) := h.o.g
 have w_c := h.cc
 have w_i := h.ii
 have hgl : opLen false gv = some L.length := by rw [h.o.hg.len, List.length_map]
 have hli : ((i : Int) < (L.length : Nat)) = True := eq_true (by omega)
 have w_cb := h.w.cell
 have w_aw : away cv N.p ∧ away cv N.g ∧ away cv N.c ∧ away cv ib ∧ away cv (nx + 9) := ⟨h.w.away (fun h => by have := h.1; omega), h.w.away (fun h => by have := h.1; omega), h.w.away (fun h => by have := h.1; omega), h.ga.2, h.w.away (fun h => by have := h.2.1; omega)⟩
 have w_nn : (∀ q, (nx + q = N.g) = False) ∧ (∀ q, (nx + q = N.p) = False) ∧ (∀ q, (nx + q = N.c) = False) ∧ (∀ q, (nx + q = ib) = False) ∧ (nx = N.g) = False ∧ (nx = N.p) = False ∧ (nx = N.c) = False ∧ (nx = ib) = False ∧ (N.c = N.p) = False ∧ (N.c = N.g) = False ∧ (N.c = ib) = False ∧ (N.p = N.c) = False ∧ (N.g = N.c) = False ∧ (ib = N.c) = False ∧ (∀ o, sget (sset s N.c o) N.c = some o) := by
  refine ⟨fun q => by simp; omega, fun q => by simp; omega, fun q => by simp; omega, fun q => by simp; omega, by simp; omega, by simp; omega, by simp; omega, by simp; omega, by simp; omega, by simp; omega, by simp; omega, by simp; omega, by simp; omega, by simp; omega, fun o => z04 h.cc⟩
 unfold T1.q38_43
 unfold T1.q38_52
 rw [← hR]
 simp only [hgl, hli, w_len, w_7, w_10, w_11, w_p, w_g, w_c, w_i, ↓LA, LB, simprocAttr]
 have hWl : (W.map fun w => D.sl (w.map SpotT.d)).length = i := by rw [List.length_map, h.wl]
 refine z52 h.w ?_ (z0j zv2) z02 ?_ ?_ ?_ ?_ ?_ fun chc hc => ?_
 ·intro q hq; obtain ⟨g1, g2, g3⟩ := hq; simp (disch := omega) only [z00]
 ·rfl
 ·omega
 ·omega
 ·omega
 ·rfl
 simp only [w_len, w_7, w_10, w_11, w_p, w_g, w_c, w_i, w_aw, w_nn, ↓LA, LB, simprocAttr]
 generalize hZ : ((nx + 9, Obj.cells (chc ++ [V.nilS])) :: sset (grow cv ((nx + 8, Obj.cells [V.nilS]) :: s)) N.c (Obj.cells [V.arr (nx + 9) 1 false 0 (W.length + 1)])) = Z
 have z0 : ∀ q, q < nx → q ≠ N.c → away cv q → sget Z q = sget s q := fun q g1 g2 g3 => by rw [← hZ]; simp (disch := omega) only [z00, z03, z07 g3]
 have z1 : sget Z N.c = some (.cells [.arr (nx + 9) 1 false 0 (i + 1)]) := by
  rw [← hZ, z00 (by omega), h.wl]
  refine z04 (x := .cells [cv]) ?_
  rw [z07 w_aw.2.2.1, z00 (by omega)]
  exact h.cc
 have z2 : sget Z (nx + 9) = some (.cells (chc ++ [.nilS])) := by rw [← hZ]; exact z02
 clear hZ
 have hwf : (W.map fun w => D.sl (w.map SpotT.d)).flatMap cellsD = W.map fun w => D.sl (w.map SpotT.d) := by
  generalize W = W
  induction W with
  | nil => rfl
  | cons x W ih => rw [List.map_cons, List.flatMap_cons, ih]; rfl
 have hws : CVs (CQ Z false (fun q => n0 ≤ q ∧ q < nx ∧ away gv q ∧ q ≠ nx + 9 ∧ away .nilS q) 2) chc (W.map fun w => D.sl (w.map SpotT.d)) := by
  rcases hc with ⟨rfl, rfl, e⟩ | ⟨k, rfl, hS, hcv⟩
  ·rw [e]; trivial
  ·rw [hwf] at hcv
   exact hcv.imp fun v d hv => (hv.frame fun q hq => z0 q hq.1.2.1 (by have := hq.1.1; omega) (fun e => hq.2 e.symm)).mono fun q hq => ⟨hq.1.1, hq.1.2.1, hq.1.2.2, by have := hq.1.2.1; omega, trivial⟩
 have hcl : chc.length = i := by rw [CVs.length hws, List.length_map, h.wl]
 have awg : ∀ q, ¬ away gv q → away cv q := fun q hq => h.w.away (fun h => hq h.2.2)
 have aw0 : ∀ q, q < n0 → away cv q := fun q hq => h.w.away (fun h => by have := h.1; omega)
 have hOp : ∀ n', nx + 11 ≤ n' → Op r N n0 ib i (nx + 9) chc W .nilS gv [] L es Z n' n' := fun n' hn' =>
  ⟨h.o.step hN (fun q hq hc => z0 q (hq.elim (by omega) fun hq => Classical.byContradiction fun e => hq (h.o.gn q (by omega))) hc (hq.elim (aw0 q) (awg q))) (by omega), z1, (z0 ib b2 (by omega) h.ga.2).trans h.ii, z2, hcl, hws.imp fun v d hv => hv.mono fun q hq => ⟨hq.1, by have := hq.2.1; omega, hq.2.2⟩, GP.nil, ⟨h.ga.1, h.o.gn _ (by omega)⟩, by omega, by omega, Nat.le_refl _, b1, by omega, by omega, trivial⟩
 obtain ⟨kg, cs, hkS, hkv, hkc, hia, hle, hta⟩ := zwz h.o.hg hi
 have hkx : kg < nx := Classical.byContradiction fun e => hkS (h.o.gn kg (by omega))
 have w_kg : sget Z kg = some (.cells cs) := (z0 kg hkx (fun e => hkS (e ▸ h.o.ga.2.2.2.2.2)) (awg kg hkS)).trans hkc
 simp only [hia, hle, hta, w_len, w_kg, ↓LA, LB, simprocAttr]
 refine z0s (zst (g := L[i])) fun v st hR => ?_
 obtain ⟨rfl, lw', rfl, _⟩ := hR
 simp only [↓LA, LB, simprocAttr]
 refine y1f (fn := 79) (first := []) (cap := [.ptr (nx + 20) 0, .ptr (nx + 21) 0]) (by simp only [w_len, LB, simprocAttr]) ?_
 show PostV (z06 G _ [.yld (nx + 25)] { s := (nx + 25, _) :: _, next := nx + 26, low := lw' }) (fun _ st' => y3e (nx + 25) _ _ st')
 refine PostV.mono (zn6 (nx := nx + 26) (N := N) (n0 := n0) (ib := ib) (i := i) (kc := nx + 9) (k := nx + 25) (u1 := nx + 20) (u2 := nx + 21) (ws := chc) (W := W) (wi := .nilS) (gv := gv) (w := []) (L := L) (g := L[i]) (es := es) ⟨by simp only [w_len, LB, simprocAttr], by simp only [w_9, LB, simprocAttr], by simp only [w_10, LB, simprocAttr], by simp only [w_11, LB, simprocAttr]⟩ hN (((hOp (nx + 11) (Nat.le_refl _)).frame hN (fun q hq => by rw [z00 (by omega), z00 (by omega), z00 (by omega)]) (by omega)).up (by omega) (Nat.le_refl _)) z02 ⟨by omega, by omega, by omega, by omega⟩ (h.o.gn _ (by omega)) trivial (hL _ (List.getElem_mem hi)) (by omega) (by simp) (by omega) (by rw [z00 (by omega), z00 (by omega)]; exact z02) (by rw [z00 (by omega)]; exact z02) ⟨⟨by omega, by omega, by omega⟩, by omega, by omega, by omega⟩ ⟨h.o.gn _ (by omega), h.o.gn _ (by omega)⟩ ⟨trivial, trivial⟩) ?_
 rintro v ⟨s1, n1, lw1⟩ ⟨f1, f2, gv', wi', es', hO, f3, f4⟩
 have f1 : nx + 26 ≤ n1 := f1
 have hk1 := (f2 (nx + 25) (by omega) (by omega) (by omega) (by omega) (h.o.gn _ (by omega)) trivial).trans z02
 refine ⟨_, _, _, _, .ready, none, hk1, by simp, ?_⟩
 obtain ⟨L', hL'⟩ : ∃ L', L' = lAt r L[i] L r.clauses.length := ⟨_, rfl⟩
 rw [List.nil_append] at hO
 rw [← hL'] at hO hQ1 hQ2
 have hO2 := hO.loop hN (s' := sdel s1 (nx + 25)) (fun cs => by rw [hk1]; simp) (by omega) (f3 _ (by omega) (h.o.gn _ (by omega))) (fun q hq => z0y (fun e => hq e.symm)) (Nat.le_refl _)
 have hO2 : Op r N n0 ib i (nx + 9) chc W wi' gv' ((z25 r L[i] r.clauses.length).map (z2u L')) L' es' (sdel s1 (nx + 25)) n1 n1 := hO2
 have hfr : ∀ q, q < n0 → q ≠ N.g → q ≠ N.m → q ≠ N.c → away gv q → sget (sdel s1 (nx + 25)) q = sget s q := fun q g1 g2 g3 g4 g5 => by
  rw [z0y (by omega), f2 q (by omega) g2 g3 (by omega) g5 trivial, z00 (by omega), z00 (by omega), z00 (by omega)]
  exact z0 q (by omega) g4 (aw0 q g1)
 show outB 2 _ _ _ (St.del _ _)
 simp only [St.del]
 generalize sdel s1 (nx + 25) = s2 at hO2 hfr
 clear hk1 hO
 have w_p := hO2.o.p
 have w_g : sget s2 N.g = some (.cells [.d (.sl (r.rels.map RelT.d)), .d (.sl (r.clauses.map ClauseT.d)), gv', .nilS, .nilS, .fn 55 [.ptr N.g 0] []]) := hO2.o.g
 have w_i := hO2.iv
 have hgl' : opLen false gv' = some L'.length := by rw [hO2.o.hg.len, List.length_map]
 have w_n1 : (∀ q, (n1 + q = N.p) = False) ∧ (∀ q, (n1 + q = N.g) = False) ∧ (∀ q, (n1 + q = ib) = False) ∧ (n1 = N.p) = False ∧ (n1 = N.g) = False ∧ (n1 = ib) = False := ⟨fun q => by simp; omega, fun q => by simp; omega, fun q => by simp; omega, by simp; omega, by simp; omega, by simp; omega⟩
 rw [hR]
 by_cases hgr : 300 < L'.length
 ·have hg3 : ((300 : Int) < (L'.length : Nat)) = True := eq_true (by omega)
  simp only [hgl', hg3, w_len, w_7, w_p, w_g, ↓LA, LB, simprocAttr]
  exact hQ2 hgr _ _ (by simp only [w_len, LB, simprocAttr]) (by simp only [w_len, LB, simprocAttr]) hfr (by show nx ≤ n1 + _; omega)
 ·have hg3 : ((300 : Int) < (L'.length : Nat)) = False := eq_false (by omega)
  simp only [hgl', hg3, z08 (show i < 300 by omega) (by omega), w_len, w_7, w_11, w_p, w_g, w_i, ↓LA, LB, simprocAttr]
  have hPh : ∀ Y : List (Nat × Obj), (∀ q, q < n1 → sget Y q = sget s2 q) → sget Y (n1 + 7) = some (.cells [.d (.int .i64 ((i + 1 : Nat) : Int))]) → ∀ n', n1 + 8 ≤ n' → Ph r N n0 (n1 + 7) (i + 1) gv' (.arr (nx + 9) 1 false 0 (i + 1)) (W ++ [(z25 r L[i] r.clauses.length).map (z2u L')]) L' es' Y n' := fun Y hY hYi n' hn' => by
   obtain ⟨k1, k2, k3, k4, k5, k6, k7, k8, c1, c2, c3, c4, c5, c6, c7⟩ := hO2
   refine ⟨k1.step hN (fun q hq _ => hY q (hq.elim (by omega) fun hq => Classical.byContradiction fun e => hq (k1.gn q (by omega)))) (by omega), (hY _ (by omega)).trans k2, hYi, ?_, by rw [List.length_append, h.wl]; rfl, ⟨k1.gn _ (by omega), by show ¬ _ = _; omega⟩, by omega, by omega, by omega⟩
   refine .inr ⟨nx + 9, chc ++ [wi'], by simp [h.wl], ⟨by omega, by omega, k8.2⟩, (hY _ (by omega)).trans k4, ?_⟩
   have e : ((W ++ [(z25 r L[i] r.clauses.length).map (z2u L')]).map fun w => D.sl (w.map SpotT.d)).flatMap cellsD = (W.map fun w => D.sl (w.map SpotT.d)) ++ [.sl (((z25 r L[i] r.clauses.length).map (z2u L')).map SpotT.d)] := by
    rw [List.map_append, List.flatMap_append, hwf]; rfl
   rw [e]
   refine CVs.append (k6.imp fun v d hv => (hv.frame fun q hq => hY q hq.2.1).mono fun q hq => ⟨⟨hq.1, by have := hq.2.1; omega, hq.2.2.1⟩, hq.2.2.2.1⟩) ⟨?_, trivial⟩
   exact ((k7.frame fun q hq => hY q hq.2.1).cv (by omega) (z0j zdy)).mono fun q hq => ⟨⟨hq.1, by have := hq.2.1; omega, hq.2.2.1⟩, hq.2.2.2⟩
  exact hQ1 (by omega) _ _ (n1 + 7) gv' _ es' (by simp only [w_len, LB, simprocAttr]) (by intro l g1; simp (disch := omega) only [z0f]) (by simp only [w_len, LB, simprocAttr]) (hPh _ (fun q g => z00 (by omega)) z02 _ (by show n1 + 8 ≤ n1 + _; omega)) (fun q g1 g2 g3 g4 g5 => (z00 (by omega)).trans (hfr q g1 g2 g3 g4 g5)) (fun q g1 g2 => f3 q (by omega) g2) (by show nx ≤ n1 + _; omega)
end Go.Lift.K
namespace Go.Lift.K
open Go Go.Lift Classical
set_option maxRecDepth 100000
noncomputable def wL (r : RulesT) (L : List GoalT) (i : Nat) : List (List SpotT) := (List.range i).map fun j => (z25 r (L.getD j ⟨[], []⟩) r.clauses.length).map (z2u L)
theorem zds {L M : List GoalT} {j : Nat} (h : j < L.length) : (L ++ M).getD j ⟨[], []⟩ = L.getD j ⟨[], []⟩ := by
 simp only [List.getD_eq_getElem?_getD]
 rw [List.getElem?_append_left h]
theorem zdq {r : RulesT} {g : GoalT} {i j : Nat} (hj : j < i) (hl : ∀ k, k < i → k < (z0l r g k).length) : ∀ x ∈ z29 (z25 r ((z0l r g i).getD j ⟨[], []⟩) r.clauses.length), x ∈ z0l r g i := by
 intro x hx
 obtain ⟨M1, e1⟩ := z33 (r := r) (g := g) (i := j) (j := i - j)
 rw [show j + (i - j) = i by omega] at e1
 obtain ⟨M2, e2⟩ := z33 (r := r) (g := g) (i := j + 1) (j := i - (j + 1))
 rw [show j + 1 + (i - (j + 1)) = i by omega] at e2
 rw [e1, zds (hl j hj)] at hx
 rw [e2]
 exact List.mem_append_left _ (z5c.2 (.inr hx))
theorem zxs {r : RulesT} {g : GoalT} {i : Nat} (hl : ∀ k, k < i → k < (z0l r g k).length) (hi : i < (z0l r g i).length) :
  wL r (z0l r g (i + 1)) (i + 1) = wL r (z0l r g i) i ++ [(z25 r (z0l r g i)[i] r.clauses.length).map (z2u (z0l r g (i + 1)))] := by
 obtain ⟨M, e⟩ := z4s (r := r) (g := g) (i := i)
 have hpl : ∀ k, k < i → k < (z0l r g i).length := fun k hk => by
  obtain ⟨M1, e1⟩ := z33 (r := r) (g := g) (i := k) (j := i - k)
  rw [show k + (i - k) = i by omega] at e1
  have := hl k hk
  rw [e1, List.length_append]; omega
 unfold wL
 rw [List.range_succ, List.map_append]
 congr 1
 ·refine List.map_congr_left fun j hj => ?_
  have hj : j < i := by simpa using hj
  rw [e, zds (hpl j hj)]
  exact zeu (zdq hj hl)
 ·have : (z0l r g (i + 1)).getD i ⟨[], []⟩ = (z0l r g i)[i] := by rw [e, zds hi]; simp [hi]
  simp only [List.map_cons, List.map_nil]
  rw [this]
theorem zfo {r : RulesT} {g : GoalT} {i : Nat} (hi : i < (z0l r g i).length) : lAt r (z0l r g i)[i] (z0l r g i) r.clauses.length = z0l r g (i + 1) := by
 have : (z0l r g i).getD i ⟨[], []⟩ = (z0l r g i)[i] := by simp [hi]
 show _ = addL (z0l r g i) (z29 (z25 r ((z0l r g i).getD i ⟨[], []⟩) r.clauses.length))
 rw [this]
 rfl
theorem wL_len {r : RulesT} {L : List GoalT} {i : Nat} : (wL r L i).length = i := by simp [wL]
theorem zn4 {r : RulesT} (hr : r.clauses.length ≤ 24) {L : List GoalT} : ∀ {i : Nat}, (wL r L i).flatten.length ≤ i * 24
 | 0 => by simp [wL]
 | i + 1 => by
  have h := zn4 hr (L := L) (i := i)
  have hf := zaw (r := r) (g := L.getD i ⟨[], []⟩) (n := r.clauses.length)
  unfold wL at h ⊢
  rw [List.range_succ, List.map_append, List.flatten_append, List.length_append]
  simp only [List.map_cons, List.map_nil, List.flatten_cons, List.flatten_nil, List.append_nil, List.length_map]
  omega
theorem y0t {r : RulesT} {L : List GoalT} {i : Nat} : ∀ w ∈ wL r L i, ∀ x ∈ w, x.owner = 1 ∧ x.rank = 0 := by
 intro w hw x hx
 obtain ⟨j, _, rfl⟩ := List.mem_map.1 hw
 obtain ⟨p, _, rfl⟩ := List.mem_map.1 hx
 exact ⟨rfl, rfl⟩
noncomputable def zw3 (r : RulesT) (L : List GoalT) : List SpotT := z70 (rkL r L) L.length (wL r L L.length)
def zvz (r : RulesT) (g : GoalT) : Prop := ∃ i, (∀ j, j ≤ i → j < (z0l r g j).length) ∧ 300 < (z0l r g (i + 1)).length
def y3g (r : RulesT) (g : GoalT) (s0 : List (Nat × Obj)) (nx : Nat) (v : V) (st : St) : Prop :=
 nx ≤ st.next ∧ (∀ q, q < nx → sget st.s q = sget s0 q) ∧ ((z0w r g ≠ 0 ∧ v = .tup [.nilP, .d (.int .i64 (z0w r g))]) ∨ (z0w r g = 0 ∧ zvz r (z1i g) ∧ v = .tup [.nilP, .d (.int .i64 9)]) ∨
  (z0w r g = 0 ∧ ∃ N L n0, Goals r (z1i g) L ∧ v = .tup [.ptr N.g 0, .d (.int .i64 0)] ∧ nx ≤ N.g ∧ N.g < st.next ∧ Game r N L (zw3 r L) st.s n0 st.next))
theorem Og1.setc {r : RulesT} {N : Nm} {gv : V} {L : List GoalT} {es : List (D × V)} {s : List (Nat × Obj)} {nx c : Nat} (h : Og1 r N gv L es s nx) (hc : away gv c) : Og1 r { N with c := c } gv L es s nx := by
 obtain ⟨h1, h2, h3, h4, h5, h6, h7, ⟨a, b, d, e, f, _⟩, h9⟩ := h
 exact ⟨h1, h2, h3, h4, h5, h6, h7, ⟨a, b, d, e, f, hc⟩, h9⟩
set_option maxHeartbeats 4000000 in
theorem zlj {r : RulesT} (hr : r.ok) {g : GoalT} (hg : g.ok) {s : List (Nat × Obj)} {nx lw : Nat} : PostV (z06 G (.fn 38 [] []) [.d r.d, .d g.d] { s := s, next := nx, low := lw }) (y3g r g s nx) := by
 have hC := fun st => zj8 hr hg st
 simp only [RulesT.d, GoalT.d] at hC
 obtain ⟨R, hR⟩ : ∃ R : IC, R = T1.q38_43 := ⟨_, rfl⟩
 obtain ⟨R', hR'⟩ : ∃ R : IC, R = T1.q38_100 := ⟨_, rfl⟩
 refine z1k (first := []) (args := [.d r.d, .d g.d]) (cap := []) T1.g38 rfl rfl rfl (fun e w_len harg => ?_)
 have w_len : e.length = 187 := w_len
 have w_0 : e.getD 0 .undef = .d r.d := harg 0 (by simp)
 have w_1 : e.getD 1 .undef = .d g.d := harg 1 (by simp)
 clear harg
 unfold T1.i38
 rw [← hR, ← hR']
 by_cases he : z0w r g = 0
 ·have hog := zhp hg he
  obtain ⟨hch, x, hx, hxa, _⟩ := z1g he
  have hxr := z7t hch (List.mem_of_find?_eq_some hx)
  have hLs := fun st => za5 (g := g) (by omega) hog st
  have hbx : ∀ key st, boxV key (mkAgg [V.d (D.sl (List.map RelT.d r.rels)), V.d (D.sl (List.map ClauseT.d r.clauses)), V.nilS, V.nilS, V.nilS, V.nilF]) st = some (.ptr key 0, St.ins st key (.cells [V.d (D.sl (List.map RelT.d r.rels)), V.d (D.sl (List.map ClauseT.d r.clauses)), V.nilS, V.nilS, V.nilS, V.nilF])) := fun key st => by
   simp only [boxV, z7u]; rfl
  simp only [GoalT.d] at hLs
  have hcm : ∀ k, cellsV (.map k) = [.map k] := fun _ => rfl
  have hcm2 : ∀ k, (V.map k).isCell = true := fun _ => rfl
  have hfb : ∀ a b : Nat, V.beq (.fn 56 [] [.ptr a 0, .ptr b 0]) (.fn 56 [] [.ptr a 0, .ptr b 0]) = true := fun a b => by simp [V.beq, V.beqL]
  simp only [RulesT.d, GoalT.d, hC, he, hLs, hbx, hcm, hcm2, hfb, w_len, w_0, w_1, ↓LA, LB, simprocAttr]
  obtain ⟨g0, hg0⟩ : ∃ g0, g0 = z1i g := ⟨_, rfl⟩
  have hrg := zd2 hg he
  rw [← hg0] at hrg ⊢
  obtain ⟨N1, hN1⟩ : ∃ N1 : Nm, N1 = ⟨nx + 12, nx + 13, nx + 22, nx + 21, nx + 25, nx + 1⟩ := ⟨_, rfl⟩
  have hN1k : N1.ok (nx + 31) := by rw [hN1]; constructor <;> simp <;> omega
  have hO1 : Og1 r N1 .nilS [] [] ((nx + 25, Obj.cells [V.fn 56 [] [V.ptr (nx + 22) 0, V.ptr (nx + 13) 0]]) :: (nx + 22, Obj.cells [V.map (nx + 21)]) :: (nx + 21, Obj.map 140 []) :: (nx + 13, Obj.cells [V.ptr (nx + 12) 0]) :: (nx + 12, Obj.cells [V.d (D.sl (List.map RelT.d r.rels)), V.d (D.sl (List.map ClauseT.d r.clauses)), V.nilS, V.nilS, V.nilS, V.fn 55 [V.ptr (nx + 12) 0] []]) :: (nx + 1, Obj.cells [V.d (D.str g.rel), V.d (D.sl (List.map TreeT.d g.args))]) :: (nx, Obj.cells [V.d (D.sl (List.map RelT.d r.rels)), V.d (D.sl (List.map ClauseT.d r.clauses))]) :: s) (nx + 31) := by
   rw [hN1]
   refine ⟨?_, ?_, ?_, ?_, ?_, zz7, GP.nil, ⟨trivial, trivial, trivial, trivial, trivial, trivial⟩, fun _ _ => trivial⟩ <;> simp (disch := omega) only [z00, z02] <;> rfl
  have hpv := zwo (lw := (((nx.min (nx + 13)).min (nx + 12)).min (nx + 22)).min (nx + 25)) hO1 hN1k (Nat.le_refl _) hrg (by simp)
  rw [hN1] at hpv
  refine z0s hpv fun v st hR => ?_
  rw [← hN1] at hR
  obtain ⟨rfl, hn1, hf1, gv, es, hO2, haw⟩ := hR
  obtain ⟨s1, n1, lw1⟩ := st
  have hn1 : nx + 31 ≤ n1 := hn1
  have hL1 : addG [] g0 = [g0] := by simp [addG]
  rw [hL1] at hO2 ⊢
  simp only [w_len, ↓LA, LB, simprocAttr]
  obtain ⟨N, hN⟩ : ∃ N : Nm, N = { N1 with c := n1 } := ⟨_, rfl⟩
  have hNg : N.g = nx + 12 ∧ N.p = nx + 13 ∧ N.n = nx + 22 ∧ N.m = nx + 21 ∧ N.f = nx + 25 ∧ N.c = n1 := by rw [hN, hN1]; exact ⟨rfl, rfl, rfl, rfl, rfl, rfl⟩
  obtain ⟨e1, e2, e3, e4, e5, e6⟩ := hNg
  have hNk : N.ok (n1 + 1) := by constructor <;> omega
  have hO3 : Og1 r N gv [g0] es s1 n1 := by rw [hN]; exact hO2.setc (hO2.gn n1 (Nat.le_refl _))
  have hz1 : ∀ q, q < nx + 31 → q ≠ nx + 21 → q ≠ nx + 12 → sget s1 q = _ := fun q g1 g2 g3 => hf1 q g1 (by rw [hN1]; exact g2) (by rw [hN1]; exact g3) trivial
  have hzs : ∀ q, q < nx → sget s1 q = sget s q := fun q g1 => by
   rw [hz1 q (by omega) (by omega) (by omega)]
   simp (disch := omega) only [z00]
  have hzb : sget s1 nx = some (.cells [V.d (D.sl (List.map RelT.d r.rels)), V.d (D.sl (List.map ClauseT.d r.clauses))]) := by
   rw [hz1 nx (by omega) (by omega) (by omega)]
   simp (disch := omega) only [z00, z02]
  obtain ⟨S0, hS0⟩ : ∃ S0, S0 = (n1 + 1, Obj.cells [V.d (D.int IntKind.i64 0)]) :: (n1, Obj.cells [V.nilS]) :: s1 := ⟨_, rfl⟩
  have hPh : ∀ n', n1 + 2 ≤ n' → Ph r N (n1 + 1) (n1 + 1) 0 gv .nilS (wL r (z0l r g0 0) 0) (z0l r g0 0) es S0 n' := fun n' hn' =>
   ⟨hO3.step hNk (fun q hq hc => by rw [hS0, z00 (fun e => hq.elim (by omega) fun hq => hq (hO3.gn q (by omega))), z00 (by omega)]) (by omega), by rw [e6, hS0, z00 (by omega)]; exact z02, by rw [hS0]; exact z02, GP.nil, rfl, ⟨hO3.gn _ (by omega), trivial⟩, by omega, by omega, by omega⟩
  rw [← hS0]
  refine z0e (fun e0 s0 m env st => ∃ (i nxi lwi : Nat) (si : List (Nat × Obj)) (ib : Nat) (gw cw : V) (fs : List (D × V)), m = 301 - i ∧ (i ≤ 301) ∧ (Ph r N (n1 + 1) ib i gw cw (wL r (z0l r g0 i) i) (z0l r g0 i) fs si nxi) ∧ ((∀ j, j < i → j < (z0l r g0 j).length)) ∧ (i ≤ (z0l r g0 i).length) ∧ ((z0l r g0 i).length ≤ 300) ∧ ((∀ q, q < nx + 1 → sget si q = sget s1 q)) ∧ ((∀ q, q < nx + 1 → away gw q)) ∧ n1 + 3 ≤ nxi ∧ 0 ≤ lwi ∧ env.length = 187 ∧ env.getD 11 .undef = .ptr ib 0 ∧ env.getD 2 .undef = .ptr nx 0 ∧ env.getD 7 .undef = .ptr (nx + 13) 0 ∧ env.getD 9 .undef = .ptr (nx + 25) 0 ∧ env.getD 10 .undef = .ptr n1 0 ∧ st = { s := si, next := nxi, low := lwi }) ?_ (301) (by refine ⟨0, _, _, _, n1 + 1, gv, .nilS, es, rfl, by omega, hPh _ (by omega), (fun j h => by omega), Nat.zero_le _, (by simp [z0l]), (fun q g1 => by rw [hS0, z00 (by omega), z00 (by omega)]), (fun q g1 => haw q (by omega) trivial), (by omega), Nat.zero_le _, ?_, ?_, ?_, ?_, ?_, ?_, rfl⟩ <;> simp only [w_len, LB, simprocAttr])
  rintro m env st ⟨i, nxi, lwi, si, ib, gw, cw, fs, hm, i_0, i_1, i_2, i_3, i_4, i_5, i_6, w_ib, w_ilo, w_len, w_11, w_2, w_7, w_9, w_10, rfl⟩
  have w_iZ := zf (x := nxi) (b := n1) (n := 3) (by omega) (by omega)
  have hLr := z4r hrg i_2
  by_cases hi : i < (z0l r g0 i).length
  ·rw [hR]
   refine y3s hNk i_1 hLr hi i_4 w_len (by rw [e2]; exact w_7) (by rw [e5]; exact w_9) (by rw [e6]; exact w_10) w_11 ?_ ?_
   ·intro hle e st ib' gv' cv' es' w_len hE w_11 hP hf hg3 hn2
    obtain ⟨s2, n2, lw2⟩ := st
    have hn2 : nxi ≤ n2 := hn2
    rw [zfo hi] at hle hP
    rw [← zxs i_2 hi] at hP
    have w_2 : e.getD 2 .undef = _ := (hE 2 (by omega)).trans w_2
    have w_7 : e.getD 7 .undef = _ := (hE 7 (by omega)).trans w_7
    have w_9 : e.getD 9 .undef = _ := (hE 9 (by omega)).trans w_9
    have w_10 : e.getD 10 .undef = _ := (hE 10 (by omega)).trans w_10
    have hmono : i + 1 ≤ (z0l r g0 (i + 1)).length := by
     obtain ⟨M, eM⟩ := z4s (r := r) (g := g0) (i := i)
     rw [eM, List.length_append]; omega
    simp only [↓LA, simprocAttr]
    exact z0c (by refine ⟨_, by omega, i + 1, _, _, _, ib', gv', cv', es', rfl, by omega, hP, (fun j hj => if h : j = i then h ▸ hi else i_2 j (by omega)), hmono, hle, (fun q g1 => (hf q (by omega) (by omega) (by omega) (by omega) (i_6 q g1)).trans (i_5 q g1)), (fun q g1 => hg3 q (by omega) (i_6 q g1)), (by omega), Nat.zero_le _, ?_, ?_, ?_, ?_, ?_, ?_, rfl⟩ <;> simp only [w_len, w_11, w_2, w_7, w_9, w_10, simprocAttr])
   ·intro hgt e st h4 h5 hf hn2
    obtain ⟨s2, n2, lw2⟩ := st
    have hn2 : nxi ≤ n2 := hn2
    rw [zfo hi] at hgt
    simp only [h4, h5, ↓LA, LB, simprocAttr]
    refine ⟨by show nx ≤ n2; omega, fun q hq => ((hf q (by omega) (by omega) (by omega) (by omega) (i_6 q (by omega))).trans (i_5 q (by omega))).trans (hzs q hq), .inr (.inl ⟨he, ⟨i, fun j hj => if h : j = i then h ▸ (by rw [← hg0]; exact hi) else (by rw [← hg0]; exact i_2 j (by omega)), by rw [← hg0]; exact hgt⟩, rfl⟩)⟩
  ·have hie : i = (z0l r g0 i).length := by omega
   obtain ⟨L, hL⟩ : ∃ L, L = z0l r g0 i := ⟨_, rfl⟩
   rw [← hL] at i_1 i_3 i_4 hi hie hLr
   have hGo : Goals r g0 L := ⟨by rw [← hie]; exact hL, fun j hj => i_2 j (by omega), i_4⟩
   have hL0 : 0 < L.length := by
    obtain ⟨M, eM⟩ := z33 (r := r) (g := g0) (i := 0) (j := i)
    rw [Nat.zero_add, ← hL] at eM
    rw [eM]; simp [z0l]
   have w_p : sget si (nx + 13) = some (.cells [.ptr (nx + 12) 0]) := by have := i_1.o.p; rwa [e1, e2] at this
   have w_g : sget si (nx + 12) = some (.cells [.d (.sl (r.rels.map RelT.d)), .d (.sl (r.clauses.map ClauseT.d)), gw, .nilS, .nilS, .fn 55 [.ptr (nx + 12) 0] []]) := by have := i_1.o.g; rw [e1] at this; unfold gC at this; rwa [e1] at this
   have w_ib := i_1.ii
   have hgl : opLen false gw = some L.length := by rw [i_1.o.hg.len, List.length_map]
   have hli : ((i : Int) < (L.length : Nat)) = False := eq_false (by omega)
   rw [hR]
   simp only [hgl, hli, w_len, w_11, w_7, w_p, w_g, w_ib, ↓LA, LB, simprocAttr]
   rw [hR']
   have hcl24 := (z64 hch).1
   refine y1i hr (N := N) (b2 := nx) (n0 := n1 + 1) (gv := gw) (cv := cw) (L := L) (es := fs) (W := wL r L i) hNk (by omega) ⟨by omega, by omega⟩ ((i_5 nx (by omega)).trans hzb) (i_1.o.step hNk (fun _ _ _ => rfl) (by omega)) hLr hL0 (by omega) (wL_len.trans hie) (by have := zn4 hcl24 (L := L) (i := i); omega) y0t i_1.cc (i_1.w.mono fun q hq => ⟨hq.1, by have := hq.2.1; omega⟩) (by simp only [w_len, LB, simprocAttr]) (by simp only [w_2, LB, simprocAttr]) (by rw [e2]; simp only [w_7, LB, simprocAttr]) (by rw [e6]; simp only [w_10, LB, simprocAttr]) ?_
   intro e st h4 h5 hG hf hn2
   obtain ⟨s2, n2, lw2⟩ := st
   have hn2 : nxi ≤ n2 := Nat.le_trans (Nat.le_add_right _ _) hn2
   have hG : Game r N L (z70 (rkL r L) L.length (wL r L i)) s2 (n1 + 1) n2 := hG
   simp only [h4, h5, ↓LA, LB, simprocAttr]
   refine ⟨by show nx ≤ n2; omega, fun q hq => ((hf q (by omega) (by omega)).trans (i_5 q (by omega))).trans (hzs q hq), .inr (.inr ⟨he, N, L, n1 + 1, by rw [← hg0]; exact hGo, rfl, by omega, by show N.g < n2; omega, ?_⟩)⟩
   unfold zw3
   rw [← hie]
   rw [← hie] at hG
   exact hG
 ·simp only [RulesT.d, GoalT.d, hC, he, w_len, w_0, w_1, ↓LA, LB, simprocAttr]
  exact ⟨by show nx ≤ nx + _; omega, fun q hq => by rw [z00 (by omega), z00 (by omega)], .inl ⟨he, rfl⟩⟩
end Go.Lift.K
namespace Go.Lift.K
open Go Go.Lift Classical
set_option maxRecDepth 100000
def zsk (r : RulesT) (g : GoalT) (rs : List D) : Prop := (z0w r g ≠ 0 ∧ rs = [.sl [], .int .i64 (z0w r g)]) ∨ (z0w r g = 0 ∧ zvz r (z1i g) ∧ rs = [.sl [], .int .i64 9]) ∨
 (z0w r g = 0 ∧ ∃ L, Goals r (z1i g) L ∧ rs = [.sl (L.map GoalT.d), .int .i64 0])
def y4i (r : RulesT) (g : GoalT) (v : V) (st : St) : Prop := ∃ a b rs, v = .tup [a, b] ∧ z0p st.s 0 [a, b] = some rs ∧ zsk r g rs
theorem zxu {r : RulesT} (hr : r.ok) {g : GoalT} (hg : g.ok) {s : List (Nat × Obj)} {nx lw : Nat} : PostV (z06 G (.fn 17 [] []) [.d r.d, .d g.d, .fn 18 [] []] { s := s, next := nx, low := lw }) (y4i r g) := by
 have hx0 : ∀ a b : V, [a, b][0]? = some a := fun _ _ => rfl
 have hx1 : ∀ a b : V, [a, b][1]? = some b := fun _ _ => rfl
 refine z1k (first := []) (args := [.d r.d, .d g.d, .fn 18 [] []]) (cap := []) T1.g17 rfl rfl rfl (fun e w_len harg => ?_)
 have w_len : e.length = 26 := w_len
 have w_0 : e.getD 0 .undef = .d r.d := harg 0 (by simp)
 have w_1 : e.getD 1 .undef = .d g.d := harg 1 (by simp)
 have w_2 : e.getD 2 .undef = .fn 18 [] [] := harg 2 (by simp)
 clear harg
 simp only [T1.i17, RulesT.d, GoalT.d, w_len, w_0, w_1, ↓LA, LB, simprocAttr]
 refine z0s (zlj hr hg) fun v st hR => ?_
 obtain ⟨hn, hf, ⟨he, rfl⟩ | ⟨he, hgr, rfl⟩ | ⟨he, N, L, n0, hG, rfl, h1, h2, hGa⟩⟩ := hR
 ·obtain ⟨s1, n1, lw1⟩ := st
  simp only [hx0, hx1, he, w_len, ↓LA, LB, simprocAttr]
  exact ⟨_, _, [.sl [], .int .i64 (z0w r g)], rfl, by simp [z0p, snap, z09], .inl ⟨he, rfl⟩⟩
 ·obtain ⟨s1, n1, lw1⟩ := st
  simp only [hx0, hx1, w_len, ↓LA, LB, simprocAttr]
  exact ⟨_, _, [.sl [], .int .i64 9], rfl, by simp [z0p, snap, z09], .inr (.inl ⟨he, hgr, rfl⟩)⟩
 ·obtain ⟨s1, n1, lw1⟩ := st
  simp only [hx0, hx1, w_len, w_2, ↓LA, LB, simprocAttr]
  obtain ⟨gv, sv, kv, k1, k2, _⟩ := hGa.ex
  refine z0s (zql k1) fun v st hR => ?_
  obtain ⟨rfl, hs⟩ := hR
  obtain ⟨s2, n2, lw2⟩ := st
  have hs : s2 = s1 := hs
  subst hs
  simp only [hx0, hx1, w_len, ↓LA, LB, simprocAttr]
  refine ⟨_, _, [.sl (L.map GoalT.d), .int .i64 0], rfl, ?_, .inr (.inr ⟨he, L, hG, rfl⟩)⟩
  have := zho (b := 0) (fun _ _ => Nat.zero_le _) k2 (by omega) (z0j fun a => z7p) (by decide)
  simp only [z0p, this]
  rfl
theorem zo6 {r : RulesT} (hr : r.ok) {g : GoalT} (hg : g.ok) : ∃ rs, zsk r g rs ∧ ∀ st, z06 G (.fn 7 [] []) [.d r.d, .d g.d] st = some (tupV (rs.map V.d), st) := by
 have hx0 : ∀ a b : V, [a, b][0]? = some a := fun _ _ => rfl
 have hx1 : ∀ a b : V, [a, b][1]? = some b := fun _ _ => rfl
 refine zte (ds := [r.d, g.d]) (P := zsk r g) T1.g7 rfl rfl (fun e w_len harg => ?_)
 have w_len : e.length = 11 := w_len
 have w_0 := harg 0 (by simp)
 have w_1 := harg 1 (by simp)
 clear harg
 simp only [List.map_cons, List.map_nil, List.getD_cons_zero, List.getD_cons_succ] at w_0 w_1
 simp only [T1.i7, RulesT.d, GoalT.d, w_len, w_0, w_1, ↓LA, LB, simprocAttr]
 refine z0s (zxu hr hg) fun v st hR => ?_
 obtain ⟨a, b, rs, rfl, h1, h2⟩ := hR
 obtain ⟨s1, n1, lw1⟩ := st
 simp only [hx0, hx1, w_len, ↓LA, LB, simprocAttr]
 exact ⟨_, rfl, rs, h1, h2⟩
noncomputable def zol (l : List GoalT) (g : GoalT) : Int := idxL (fun x => z9x x g) l
theorem zom {g : GoalT} (hg : g.ok) {l : List GoalT} (hl : ∀ x ∈ l, x.ok) {s : List (Nat × Obj)} {n0 k : Nat} (hk : k < n0) (ho : sget s k = some (.cells [.d (.str g.rel), .d (.sl (g.args.map TreeT.d))])) : TellsT G (.fn 23 [] [.ptr k 0]) s n0 GoalT.d (· ∈ l) (fun x => z9x x g) := by
 intro x hx s' nx lw hs hn
 have hne : (nx = k) = False := by simp; omega
 have ho' : sget s' k = _ := (hs k hk).trans ho
 have hS := fun st => zj0 (hl x hx) hg st
 simp only [GoalT.d] at hS
 refine z5e (first := []) (args := [.d x.d]) (cap := [.ptr k 0]) (us := [.d (.bool (z9x x g))]) T1.g23 rfl rfl rfl (fun e w_len harg => ?_)
 have w_len : e.length = 7 := w_len
 have w_0 : e.getD 0 .undef = .d x.d := harg 0 (by simp)
 have w_1 : e.getD 1 .undef = .ptr k 0 := harg 1 (by simp)
 clear harg
 simp only [T1.i23, GoalT.d, hne, ho', hS, w_len, w_0, w_1, ↓LA, LB, simprocAttr]
 exact ru1 (by first | exact Nat.le_refl _ | exact z01 (Nat.le_refl _) (by omega) | exact z01 (z01 (Nat.le_refl _) (by omega)) (by omega)) rfl
theorem zj4 {g : GoalT} (hg : g.ok) {l : List GoalT} (hl : ∀ x ∈ l, x.ok) (hll : LOk l) (st : St) : z06 G (.fn 9 [] []) [.d (.sl (l.map GoalT.d)), .d g.d] st = some (.d (.int .i64 (zol l g)), st) := by
 unfold LOk at hll
 refine z15 (ds := [.sl (l.map GoalT.d), g.d]) (rs := [.int .i64 (zol l g)]) T1.g9 rfl rfl (fun e w_len harg => ?_) st
 have w_len : e.length = 8 := w_len
 have w_0 := harg 0 (by simp)
 have w_1 := harg 1 (by simp)
 clear harg
 simp only [List.map_cons, List.map_nil, List.getD_cons_zero, List.getD_cons_succ] at w_0 w_1
 have hc : ∀ s nx lw, sget s 0 = some (.cells [.d (.str g.rel), .d (.sl (g.args.map TreeT.d))]) → 0 < nx → z06 G (.fn 22 [] []) [.d (.sl (l.map GoalT.d)), .fn 23 [] [.ptr 0 0]] { s := s, next := nx, low := lw } = _ := fun s nx lw h1 h2 =>
  zhn T1.g22 (by omega) (fun a _ => z7p) (zom hg hl h2 h1)
 simp only [T1.i9, GoalT.d, hc, w_len, w_0, w_1, ↓LA, LB, simprocAttr]
 exact rq1 (by rfl)
end Go.Lift.K
namespace Go.Lift.K
open Go Go.Lift Classical
set_option maxRecDepth 100000
theorem zfh {α : Type} : ∀ {l u : List α}, l.Nodup → (∀ x ∈ l, x ∈ u) → l.length ≤ u.length
 | [], _, _, _ => Nat.zero_le _
 | x :: l, u, hn, h => by
  have hx := h x (List.mem_cons_self ..)
  rw [List.nodup_cons] at hn
  have : l.length ≤ (u.erase x).length := zfh hn.2 fun y hy => (List.mem_erase_of_ne (by intro e; subst e; exact hn.1 hy)).2 (h y (List.mem_cons_of_mem _ hy))
  rw [List.length_erase_of_mem hx] at this
  have := List.length_pos_of_mem hx
  simp only [List.length_cons]
  omega
noncomputable def subs (t : TreeT) : List TreeT := (List.range t.nodes.length).map (subT t)
theorem sub_self {t : TreeT} (h : Lst t) : t ∈ subs t := by
 refine List.mem_map.2 ⟨0, by simpa using h.pos, ?_⟩
 have h1 := h.same
 have h2 := h.root
 unfold subT
 rw [h1]
 cases t
 simp at h2
 rw [h2]
theorem zxx {t : TreeT} (h : Lst t) {k j : Nat} (hk : k < t.nodes.length) (hj : j < (subT t k).nodes.length) : ∃ m, m < t.nodes.length ∧ subT (subT t k) j = subT t m := by
 have hn := h.gdt.gd.rt
 have hj' : j < (z1x t.nodes k).length := by
  have : (subT t k).nodes.length = (z1x t.nodes k).length := by simp [subT, z0r]
  omega
 have hm := z40 hn hk (List.getElem_mem hj')
 refine ⟨(z1x t.nodes k)[j], hm.2, ?_⟩
 unfold subT
 rw [zdj (zdi hn hk) hn (by simpa [z0r] using hj') hm.2 (z7e hn hk hj')]
def InT (T : List TreeT) (g : GoalT) : Prop := ∀ t ∈ g.args, t ∈ T
theorem zzg {g : GoalT} (h : Lg g) : InT (g.args.flatMap subs) g := fun t ht => List.mem_flatMap.2 ⟨t, ht, sub_self (h t ht)⟩
theorem zuj {g0 : GoalT} (h0 : Lg g0) {r : RulesT} {g : GoalT} (hg : Rg r g) (h : InT (g0.args.flatMap subs) g) {c : ClauseT} (hc : c ∈ r.clauses) (hf : fitS c g) {x : GoalT} (hx : x ∈ z2s c g) : InT (g0.args.flatMap subs) x := by
 have hcf := z7s hg.1 hc
 have hlen := hcf.len hf.1
 obtain ⟨a, ha, rfl⟩ := List.mem_map.1 hx
 intro t ht
 obtain ⟨v, hv, rfl⟩ := List.mem_map.1 ht
 obtain ⟨y, hy, hyv⟩ := hcf.th g a ha v hv
 have hlk : ∃ y ∈ bndN c g c.head.length, look (bndN c g c.head.length) v = y.2 := by
  unfold look
  cases hq : (bndN c g c.head.length).find? (fun x => decide (x.1 = v)) with
  | none =>
   rw [List.find?_eq_none] at hq
   exact absurd (hq y hy) (by simp [hyv])
  | some z => exact ⟨z, List.mem_of_find?_eq_some hq, rfl⟩
 obtain ⟨z, hz, e⟩ := hlk
 show look (bndN c g c.head.length) v ∈ _
 rw [e]
 obtain ⟨i, hi, k, hk, rfl⟩ := z5a.1 hz
 have hil : i < g.args.length := by omega
 have har : ar g i = g.args[i] := y0b hil
 have hT := h _ (List.getElem_mem hil)
 obtain ⟨t0, ht0, hts⟩ := List.mem_flatMap.1 hT
 obtain ⟨m, hm, hme⟩ := List.mem_map.1 hts
 have hm : m < t0.nodes.length := by simpa using hm
 have hL := hg.2 _ (List.getElem_mem hil)
 show subP (hd c i) (ar g i) k ∈ _
 unfold subP
 by_cases hn : (hd c i).name = []
 ·rw [if_pos hn, har]; exact hT
 ·rw [if_neg hn, har]
  have hfp := hf.2.1 i hi
  rcases hfp with hfp | ⟨_, hfp⟩
  ·exact absurd hfp hn
  rw [har] at hfp
  have hkid : kid g.args[i].nodes 0 k < g.args[i].nodes.length := (hL.gdt.gd.at_ hL.pos (by rw [← z2j hL.pos, hfp]; exact hk)).2
  rw [← hme] at hkid ⊢
  obtain ⟨m', hm', e'⟩ := zxx (h0 t0 ht0) hm hkid
  rw [e']
  exact List.mem_flatMap.2 ⟨t0, ht0, List.mem_map.2 ⟨m', by simpa using hm', rfl⟩⟩
theorem zdn {r : RulesT} {g : GoalT} (h : Rg r g) : ∀ {i : Nat}, (∀ j, j < i → j < (z0l r g j).length) → ∀ x ∈ z0l r g i, InT (g.args.flatMap subs) x
 | 0, _, x, hx => by
  simp [z0l] at hx
  subst hx
  exact zzg h.2
 | i + 1, hi, x, hx => by
  rcases z5c.1 hx with hx | hx
  ·exact zdn h (fun j hj => hi j (by omega)) x hx
  ·obtain ⟨p, hp, hxp⟩ := List.mem_flatMap.1 hx
   obtain ⟨h1, h2, h3⟩ := zav.1 hp
   rw [h3] at hxp
   have hil := hi i (by omega)
   have e : (z0l r g i).getD i ⟨[], []⟩ = (z0l r g i)[i] := by simp [hil]
   rw [e] at h2 hxp
   have hc : clA r p.1 ∈ r.clauses := by
    have : clA r p.1 = r.clauses[p.1] := by simp [clA, h1]
    rw [this]; exact List.getElem_mem h1
   have hm := List.getElem_mem hil
   exact zuj h.2 (z4r h (fun j hj => hi j (by omega)) _ hm) (zdn h (fun j hj => hi j (by omega)) _ hm) hc h2 hxp
def univ (T : List TreeT) (rs : List RelT) : List GoalT := rs.flatMap fun y => if y.arity = 1 then T.map fun t => ⟨y.name, [t]⟩ else T.flatMap fun t => T.map fun u => ⟨y.name, [t, u]⟩
theorem zsr {T : List TreeT} {rs : List RelT} {g : GoalT} (h : InT T g) {y : RelT} (hy : y ∈ rs) (hr : g.rel = y.name) (ha : (g.args.length : Int) = y.arity) (h1 : 1 ≤ y.arity ∧ y.arity ≤ 2) : g ∈ univ T rs := by
 refine List.mem_flatMap.2 ⟨y, hy, ?_⟩
 obtain ⟨n, as⟩ := g
 have hr : n = y.name := hr
 subst hr
 by_cases e : y.arity = 1
 ·rw [if_pos e]
  match as, ha, h with
  | [], ha, _ => simp at ha; omega
  | [t], _, h => exact List.mem_map.2 ⟨t, h t (by simp), rfl⟩
  | _ :: _ :: _, ha, _ => simp at ha; omega
 ·rw [if_neg e]
  match as, ha, h with
  | [], ha, _ => simp at ha; omega
  | [_], ha, _ => simp at ha; omega
  | [t, u], _, h => exact List.mem_flatMap.2 ⟨t, h t (by simp), List.mem_map.2 ⟨u, h u (by simp), rfl⟩⟩
  | _ :: _ :: _ :: _, ha, _ => simp at ha; omega
theorem zdu {α β : Type} {f : α → List β} {m : Nat} : ∀ {l : List α}, (∀ x ∈ l, (f x).length ≤ m) → (l.flatMap f).length ≤ l.length * m
 | [], _ => by simp
 | x :: l, h => by
  rw [List.flatMap_cons, List.length_append, List.length_cons, Nat.succ_mul]
  have h1 := h x (List.mem_cons_self ..)
  have h2 := zdu (l := l) fun y hy => h y (List.mem_cons_of_mem _ hy)
  omega
theorem zss {T : List TreeT} (hT : T.length ≤ 10) {rs : List RelT} (hr : rs.length ≤ 3) : (univ T rs).length ≤ 300 := by
 have h : (univ T rs).length ≤ rs.length * 100 := zdu fun y _ => by
  by_cases e : y.arity = 1
  ·rw [if_pos e, List.length_map]; omega
  ·rw [if_neg e]
   have : (T.flatMap fun t => T.map fun u => (⟨y.name, [t, u]⟩ : GoalT)).length ≤ T.length * 10 := zdu fun t _ => by rw [List.length_map]; exact hT
   omega
 omega
theorem zp5 {r : RulesT} (hr : RulesM r) {g : GoalT} (hg : g.ok) (he : z0w r g = 0) (h5 : ∀ t ∈ g.args, t.nodes.length ≤ 5) : ¬ zvz r (z1i g) := by
 rintro ⟨i, hl, hgt⟩
 have hrg := zd2 hg he
 have hog := zhp hg he
 have hl' : ∀ j, j < i + 1 → j < (z0l r (z1i g) j).length := fun j hj => hl j (by omega)
 have hT : ((z1i g).args.flatMap subs).length ≤ 10 := by
  obtain ⟨y, hy, _, ha, _⟩ := hrg.rel
  obtain ⟨k, hk, rfl⟩ := List.mem_iff_getElem.1 hy
  have har := (hr.rel k hk).2.1
  have : ((z1i g).args.flatMap subs).length ≤ (z1i g).args.length * 5 := zdu fun t ht => by
   obtain ⟨u, hu, rfl⟩ := List.mem_map.1 ht
   have ho := (hog u hu).1
   have := z7d (ns := u.nodes) ho.gd.rt (r := u.root.toNat) (by have h1 := ho.rl; have h2 := ho.rh; omega)
   have h6 := h5 u hu
   simp only [subs, List.length_map, List.length_range]
   show (z0r u.nodes u.root.toNat).length ≤ 5
   omega
  omega
 have hle : (z0l r (z1i g) (i + 1)).length ≤ (univ ((z1i g).args.flatMap subs) r.rels).length := zfh z48 fun x hx => by
  obtain ⟨y, hy, e1, e2, _⟩ := (z4r hrg hl' x hx).rel
  obtain ⟨k, hk, rfl⟩ := List.mem_iff_getElem.1 hy
  exact zsr (zdn hrg hl' x hx) hy e1 e2 (hr.rel k hk).2.1
 have := zss hT hr.most
 omega
theorem ziv {r : RulesT} {a b : GoalT} (ha : Rg r a) (hb : Rg r b) : z9x a b = decide (a = b) := by
 obtain ⟨_, _, _, _, e1⟩ := z1g ha.1
 obtain ⟨_, _, _, _, e2⟩ := z1g hb.1
 simp [z9x, e1, e2, ha.2.fix, hb.2.fix]
theorem zj5 {r : RulesT} {L : List GoalT} (hL : ∀ x ∈ L, Rg r x) {b : GoalT} (hb : b ∈ L) : zol L b = (ix L b : Nat) := by
 obtain ⟨hi, e⟩ := zug hb
 refine z7i hi (fun x hx => ?_) ?_
 ·obtain ⟨j, hj, rfl⟩ := List.mem_iff_getElem.1 hx
  rw [List.length_take] at hj
  rw [List.getElem_take]
  rw [ziv (hL _ (List.getElem_mem _)) (hL b hb)]
  have hne : L[j] ≠ b := by
   unfold ix at hj hi
   cases hc : ixG L b with
   | none => exact absurd hb (z7g.1 hc)
   | some m =>
    rw [hc] at hj hi
    simp only [Option.getD_some] at hj hi
    unfold ixG at hc
    obtain ⟨_, _, h3⟩ := List.findIdx?_eq_some_iff_getElem.1 hc
    have := h3 j (by omega)
    simpa using this
  simpa using hne
 ·rw [ziv (hL _ (List.getElem_mem _)) (hL b hb), e]
  simp
theorem zdm {L : List GoalT} (hn : L.Nodup) {i : Nat} (hi : i < L.length) : ix L L[i] = i := by
 obtain ⟨h1, h2⟩ := zug (List.getElem_mem hi)
 rcases Nat.lt_trichotomy (ix L L[i]) i with h | h | h
 ·exact absurd h2 (List.pairwise_iff_getElem.1 hn _ _ h1 hi h)
 ·exact h
 ·exact absurd h2.symm (List.pairwise_iff_getElem.1 hn _ _ hi h1 h)
theorem Goals.nodup {r : RulesT} {g : GoalT} {L : List GoalT} (h : Goals r g L) : L.Nodup := by
 rw [h.eq]; exact z48
theorem Goals.rg {r : RulesT} {g : GoalT} {L : List GoalT} (h : Goals r g L) (hg : Rg r g) : ∀ x ∈ L, Rg r x := by
 intro x hx
 rw [h.eq] at hx
 exact z4r hg h.lt x hx
theorem Goals.first {r : RulesT} {g : GoalT} {L : List GoalT} (h : Goals r g L) : ∃ h0 : 0 < L.length, L[0] = g := by
 obtain ⟨M, e⟩ := h.pre (Nat.zero_le _)
 have e' : L = g :: M := by rw [e]; rfl
 subst e'
 exact ⟨by simp, rfl⟩
theorem Goals.found2 {r : RulesT} {g : GoalT} {L : List GoalT} (h : Goals r g L) {j : Nat} (hj : j < L.length) (h0 : 0 < j) : ∃ q, ∃ hq : q < L.length, q < j ∧ ∃ p ∈ z25 r L[q] r.clauses.length, L[j] ∈ p.2 := by
 have hj' : j < (z0l r g L.length).length := by rw [← h.eq]; exact hj
 obtain ⟨q, hq, _, h2, p, hp, hx⟩ := h.found (Nat.le_refl _) hj' h0
 refine ⟨q, hq, h2, p, hp, ?_⟩
 have e : L[j] = (z0l r g L.length)[j] := by
  have := h.eq
  congr 1
 rw [e]; exact hx
theorem zzx {s : List (Nat × Obj)} {S S' : Nat → Prop} {n m : Nat} {v : V} {d d' : D} (h : CQ s false S n v d) (h' : CQ s false S' m v d') : d = d' := by
 have a := CQ.snap (b := 0) (fun _ _ => Nat.zero_le _) (m := n + m + 1) (by omega) h
 have b := CQ.snap (b := 0) (fun _ _ => Nat.zero_le _) (m := n + m + 1) (by omega) h'
 rw [a] at b
 exact Option.some.inj b
theorem zv6 {s : List (Nat × Obj)} {S S' : Nat → Prop} {n m : Nat} : ∀ {vs : List V} {ds ds' : List D}, CVs (CQ s false S n) vs ds → CVs (CQ s false S' m) vs ds' → ds = ds' := fun a b => CVs.fun_ (R := CQ s false S n) (R' := CQ s false S' m) (fun _ _ _ h h' => zzx h h') a b
theorem zkm {s : List (Nat × Obj)} {k : Nat} : ∀ {n : Nat} {S : Nat → Prop} {v : V} {d : D}, (∀ m, m ≤ n → ∀ es ag len d, ¬ CQ s false S m (.arr k es ag 0 len) d) → CQ s false S n v d → CQ s false (fun q => S q ∧ q ≠ k) n v d
 | 0, _, _, _, _, h => h
 | n + 1, S, v, d, hk, h => by
  have h0 := h
  rcases h with h | h | ⟨k', es, ag, cs, ds, rfl, rfl, h3, h5, h6, h7, h8⟩
  ·exact .inl h
  ·exact .inr (.inl h)
  ·have hne : k' ≠ k := fun e => by
    subst e
    exact hk (n + 1) (Nat.le_refl _) _ _ _ _ h0
   exact .inr (.inr ⟨k', es, ag, cs, ds, rfl, rfl, ⟨h3, hne⟩, h5, h6, h7, h8.imp fun v d hv => zkm (fun m hm => hk m (by omega)) hv⟩)
theorem zv9 {s : List (Nat × Obj)} {S : Nat → Prop} {k : Nat} {cs : List V} (hc : sget s k = some (.cells cs)) : ∀ {n : Nat} {ds : List D}, CVs (CQ s false S n) cs ds → (∃ es ag len d, CQ s false S (n + 1) (.arr k es ag 0 len) d) → CVs (CQ s false (fun q => S q ∧ q ≠ k) n) cs ds := by
 intro n
 induction n with
 | zero => exact fun h _ => h.imp fun v d hv => hv
 | succ n ih =>
  intro ds h hr
  by_cases hex : ∃ es ag len d, CQ s false S (n + 1) (.arr k es ag 0 len) d
  ·have hex' := hex
   obtain ⟨es, ag, len, d, hq⟩ := hex
   rcases hq with ⟨e, _⟩ | ⟨e | e, _⟩ | ⟨k', es', ag', cs', ds', e, rfl, h3, h5, h6, h7, h8⟩
   ·cases e
   ·cases e
   ·cases e
   ·injection e with e1 e2 e3 e4 e5
    subst e1
    rw [hc] at h5
    injection h5 with h5
    injection h5 with h5
    subst h5
    have := ih h8 hex'
    rw [zv6 h8 h] at this
    exact this.imp fun v d hv => CQ.dep (Nat.le_succ n) hv
  ·refine h.imp fun v d hv => zkm (fun m hm es ag len d hq => hex ⟨es, ag, len, d, CQ.dep hm hq⟩) hv
theorem zv5 {s : List (Nat × Obj)} : ∀ {n : Nat} {S : Nat → Prop} {v : V} {d : D}, CQ s false S n v d → CZ s S n v d
 | 0, _, _, _, h => h.1
 | n + 1, S, v, d, h => by
  have h0 := h
  rcases h with ⟨rfl, _⟩ | h | ⟨k, es, ag, cs, ds, rfl, rfl, h3, h5, h6, h7, h8⟩
  ·exact .inl rfl
  ·exact .inr (.inl h)
  ·refine .inr (.inr ⟨k, es, ag, ds, rfl, rfl, h3, h6, h7, .inl ⟨cs, h5, ?_⟩⟩)
   exact (zv9 h5 h8 ⟨_, _, _, _, h0⟩).imp fun v d hv => zv5 hv
end Go.Lift.K
