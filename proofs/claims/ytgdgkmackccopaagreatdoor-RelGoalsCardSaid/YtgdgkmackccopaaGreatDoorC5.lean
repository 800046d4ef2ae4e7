/- Part C5 of the proof. -/
import Derived.Test.YtgdgkmackccopaaGreatDoorC2
import Derived.Test.YtgdgkmackccopaaGreatDoorB7
import Derived.Test.YtgdgkmackccopaaGreatDoorC4
import Derived.Test.YtgdgkmackccopaaGreatDoorA7
set_option linter.all false
namespace Go.Lift.K
open Go Go.Lift Classical
set_option maxRecDepth 100000
structure Op (r : RulesT) (N : Nm) (n0 ib i kc : Nat) (ws : List V) (W : List (List SpotT)) (wi gv : V) (w : List SpotT) (L : List GoalT) (es : List (D × V)) (s : List (Nat × Obj)) (nw nx : Nat) : Prop where
 o : Og1 r N gv L es s nx
 cv : sget s N.c = some (.cells [.arr kc 1 false 0 (i + 1)])
 iv : sget s ib = some (.cells [.d (.int .i64 (i : Nat))])
 kv : sget s kc = some (.cells (ws ++ [wi]))
 wl : ws.length = i
 hws : CVs (CQ s false (fun q => n0 ≤ q ∧ q < nw ∧ away gv q ∧ q ≠ kc ∧ away wi q) 2) ws (W.map fun w => D.sl (w.map SpotT.d))
 hwi : GP s false (fun q => n0 ≤ q ∧ q < nw ∧ away gv q ∧ q ≠ kc) 1 4 true wi (w.map SpotT.d)
 ga : away gv ib ∧ away gv kc
 lt : n0 ≤ kc ∧ kc < nw ∧ nw ≤ nx ∧ n0 ≤ ib ∧ ib < nw ∧ ib ≠ kc ∧ away wi ib
theorem Op.step {r : RulesT} {N : Nm} {n0 ib i kc : Nat} {ws : List V} {W : List (List SpotT)} {wi gv gv' : V} {w : List SpotT} {L L' : List GoalT} {es es' : List (D × V)} {s s' : List (Nat × Obj)} {nw nx nx' : Nat} (h : Op r N n0 ib i kc ws W wi gv w L es s nw nx) (hN : N.ok n0)
  (hs : ∀ q, q < nw → q ≠ N.m → q ≠ N.g → away gv q → sget s' q = sget s q) (ho : Og1 r N gv' L' es' s' nx') (hg : ∀ q, q < nw → away gv q → away gv' q) (hn : nx ≤ nx') : Op r N n0 ib i kc ws W wi gv' w L' es' s' nw nx' := by
 obtain ⟨h1, h2, h3, h4, h5, h6, h7, ⟨h8, h9⟩, b1, b2, b3, b4, b5, b6, b7⟩ := h
 obtain ⟨l1, l2, l3, l4, l5, l6⟩ := hN.lt
 have a1 := hN.g
 have a4 := hN.m
 exact ⟨ho, (hs _ (by omega) (fun e => a4.2 e.symm) (fun e => a1.2.2.2.2 e.symm) h1.ga.2.2.2.2.2).trans h2, (hs _ b5 (by omega) (by omega) h8).trans h3, (hs _ b2 (by omega) (by omega) h9).trans h4, h5, h6.imp fun v d hv => (hv.frame fun q hq => hs q hq.2.1 (by have := hq.1; omega) (by have := hq.1; omega) hq.2.2.1).mono fun q hq => ⟨hq.1, hq.2.1, hg q hq.2.1 hq.2.2.1, hq.2.2.2⟩,
  (h7.frame fun q hq => hs q hq.2.1 (by have := hq.1; omega) (by have := hq.1; omega) hq.2.2.1).mono fun q hq => ⟨hq.1, hq.2.1, hg q hq.2.1 hq.2.2.1, hq.2.2.2⟩, ⟨hg _ b5 h8, hg _ b2 h9⟩, b1, b2, by omega, b4, b5, b6, b7⟩
theorem zkk {s : List (Nat × Obj)} {lv : Bool} {k : Nat} (hk : ∀ cs, sget s k ≠ some (.cells cs)) : ∀ {n : Nat} {S : Nat → Prop} {v : V} {d : D}, CQ s lv S n v d → CQ s lv (fun q => S q ∧ q ≠ k) n v d
 | 0, _, _, _, h => h
 | n + 1, S, v, d, h => by
  rcases h with h | h | ⟨k', es, ag, cs, ds, h1, h2, h3, h5, h6, h7, h8⟩
  ·exact .inl h
  ·exact .inr (.inl h)
  ·exact .inr (.inr ⟨k', es, ag, cs, ds, h1, h2, ⟨h3, fun e => hk cs (e ▸ h5)⟩, h5, h6, h7, h8.imp fun v d => zkk hk⟩)
theorem zwy {s : List (Nat × Obj)} {lv : Bool} {k : Nat} (hk : ∀ cs, sget s k ≠ some (.cells cs)) {n es : Nat} {ag : Bool} {S : Nat → Prop} {v : V} {ds : List D} (h : GP s lv S n es ag v ds) : GP s lv (fun q => S q ∧ q ≠ k) n es ag v ds := by
 rcases h with h | ⟨k', cs, h1, h2, h4, h5⟩
 ·exact .inl h
 ·exact .inr ⟨k', cs, h1, ⟨h2, fun e => hk cs (e ▸ h4)⟩, h4, h5.imp fun v d hv => (zkk hk hv).mono fun q hq => ⟨⟨hq.1.1, hq.2⟩, hq.1.2⟩⟩
theorem Op.loop {r : RulesT} {N : Nm} {n0 ib i kc k : Nat} {ws : List V} {W : List (List SpotT)} {wi gv : V} {w : List SpotT} {L : List GoalT} {es : List (D × V)} {s s' : List (Nat × Obj)} {nw nx nx' : Nat} (h : Op r N n0 ib i kc ws W wi gv w L es s nw nx) (hN : N.ok n0)
  (hk : ∀ cs, sget s k ≠ some (.cells cs)) (hkn : n0 ≤ k) (hkg : away gv k) (hs : ∀ q, q ≠ k → sget s' q = sget s q) (hn : nx ≤ nx') : Op r N n0 ib i kc ws W wi gv w L es s' nw nx' := by
 obtain ⟨h1, h2, h3, h4, h5, h6, h7, h8, b1, b2, b3, b4, b5, b6, b7⟩ := h
 obtain ⟨l1, l2, l3, l4, l5, l6⟩ := hN.lt
 have hne : ∀ {q cs}, sget s q = some (.cells cs) → q ≠ k := fun hq e => hk _ (e ▸ hq)
 exact ⟨h1.step hN (fun q hq _ => hs q (fun e => hq.elim (by omega) fun h => h (e ▸ hkg))) hn, (hs _ (hne h2)).trans h2, (hs _ (hne h3)).trans h3, (hs _ (hne h4)).trans h4, h5, h6.imp fun v d hv => ((zkk hk hv).frame fun q hq => hs q hq.2).mono fun q hq => hq.1,
  ((zwy hk h7).frame fun q hq => hs q hq.2).mono fun q hq => hq.1, h8, b1, b2, by omega, b4, b5, b6, b7⟩
theorem Op.frame {r : RulesT} {N : Nm} {n0 ib i kc : Nat} {ws : List V} {W : List (List SpotT)} {wi gv : V} {w : List SpotT} {L : List GoalT} {es : List (D × V)} {s s' : List (Nat × Obj)} {nw nx nx' : Nat} (h : Op r N n0 ib i kc ws W wi gv w L es s nw nx) (hN : N.ok n0)
  (hs : ∀ q, q < nx → sget s' q = sget s q) (hn : nx ≤ nx') : Op r N n0 ib i kc ws W wi gv w L es s' nw nx' := by
 obtain ⟨b1, b2, b3, b4, b5, b6, b7⟩ := h.lt
 exact h.step hN (fun q hq _ _ _ => hs q (by omega)) (h.o.step hN (fun q hq _ => hs q (hq.elim (by omega) fun hq => Classical.byContradiction fun e => hq (h.o.gn q (by omega)))) hn) (fun _ _ h => h) hn
theorem z3r {l : List GoalT} {i : Nat} (hi : i < l.length) : z0a 2 (.d (.sl (l.map GoalT.d))) (i : Int) = some (.dptr [.str l[i].rel, .sl (l[i].args.map TreeT.d)]) := z24 hi rfl
theorem zgm {L l : List GoalT} {j : Nat} (hj : j < l.length) : addL L (l.take (j + 1)) = addG (addL L (l.take j)) l[j] := by
 rw [List.take_add_one, List.getElem?_eq_getElem hj]
 exact zsf
theorem zp4 {L l : List GoalT} {j : Nat} (hj : j < l.length) : (l.take (j + 1)).map (ix (addL L (l.take (j + 1)))) = (l.take j).map (ix (addL L (l.take j))) ++ [ix (addG (addL L (l.take j)) l[j]) l[j]] := by
 rw [zgm hj, List.take_add_one, List.getElem?_eq_getElem hj]
 simp only [Option.toList_some, List.map_append, List.map_cons, List.map_nil]
 congr 1
 refine List.map_congr_left fun x hx => ?_
 obtain ⟨M, e, _⟩ := zl5 (addL L (l.take j)) l[j]
 rw [e]
 exact zwr (z5c.2 (.inr hx))
def oAsg : IC := (sq 1 [om 12 64] (.reg 1 [om 13 65]))
structure Oe (N : Nm) (ib : Nat) (env : List V) : Prop where
 len : env.length = 187
 a9 : env.getD 9 .undef = .ptr N.f 0
 a10 : env.getD 10 .undef = .ptr N.c 0
 a11 : env.getD 11 .undef = .ptr ib 0
def zxq (r : RulesT) (N : Nm) (n0 ib i kc : Nat) (ws : List V) (W : List (List SpotT)) (wi gv : V) (w : List SpotT) (L : List GoalT) (c : Nat) (l : List GoalT) (s : List (Nat × Obj)) (nx : Nat) (v : V) (st : St) : Prop :=
 v = .d (.bool true) ∧ nx ≤ st.next ∧ (∀ q, q < nx → q ≠ N.g → q ≠ N.m → q ≠ kc → away gv q → away wi q → sget st.s q = sget s q) ∧
  ∃ gv' wi' es', Op r N n0 ib i kc ws W wi' gv' (w ++ [⟨1, 0, l.map (ix (addL L l)), c⟩]) (addL L l) es' st.s st.next st.next ∧ (∀ q, q < nx → away gv q → away gv' q) ∧ ∀ q, q < nx → away wi q → away wi' q
set_option maxHeartbeats 4000000 in
theorem zd1 {r : RulesT} {N : Nm} {n0 ib i kc k c : Nat} {ws : List V} {W : List (List SpotT)} {wi gv : V} {w : List SpotT} {L l : List GoalT} {es : List (D × V)} {s : List (Nat × Obj)} {nx lw : Nat} {E : List V} (hE : Oe N ib E) (hN : N.ok n0) (h : Op r N n0 ib i kc ws W wi gv w L es s nx nx)
  (hk : sget s k = some (.loop E [64, 65] oAsg (.block 3 T1.q38_66) .ready none)) (hkn : n0 ≤ k ∧ k < nx ∧ k ≠ kc ∧ k ≠ ib) (hkg : away gv k) (hkw : away wi k) (hl : ∀ x ∈ l, Rg r x) (hL : L.length + l.length ≤ 100000) (hwl : w.length ≤ 100000) (hi : i ≤ 100000) :
  PostV (z06 T1.G (.yld k) [.d (.int .i64 (c : Nat)), .d (.sl (l.map GoalT.d))] { s := s, next := nx, low := lw }) (zxq r N n0 ib i kc ws W wi gv w L c l s nx) := by
 obtain ⟨w_len, w_9, w_10, w_11⟩ := hE
 refine zn1 (A := fun env2 st2 => ∃ nx' lw', st2 = { s := s, next := nx', low := lw' } ∧ nx ≤ nx' ∧ env2.length = 187 ∧ env2.getD 9 .undef = .ptr N.f 0 ∧ env2.getD 10 .undef = .ptr N.c 0 ∧ env2.getD 11 .undef = .ptr ib 0 ∧ env2.getD 12 .undef = .d (.int .i64 (c : Nat)) ∧ env2.getD 13 .undef = .d (.sl (l.map GoalT.d))) hk rfl ?_ ?_
 ·have w_x := hi
  simp only [oAsg, w_len, w_9, w_10, w_11, ↓LA, LB, simprocAttr]
  exact ⟨_, _, rfl, by omega⟩
 rintro env2 st2 ⟨nx', lw', rfl, hn, w_len, w_9, w_10, w_11, w_12, w_13⟩
 refine ⟨hk, ?_⟩
 obtain ⟨l1, l2, l3, l4, l5, l6⟩ := hN.lt
 obtain ⟨b1, b2, b3, b4, b5, b6, b7⟩ := h.lt
 obtain ⟨O, hO⟩ : ∃ O, O = Obj.loop E [64, 65] oAsg (.block 3 T1.q38_66) .busy none := ⟨_, rfl⟩
 rw [← hO]
 show PC (z0i (z06 T1.G) z0h (some k) (.block 3 T1.q38_66) env2 { s := sset s k O, next := nx', low := Nat.min lw' k }) _ .mk
 have w_k := z04 (o := O) hk
 have h1 : Op r N n0 ib i kc ws W wi gv w L es (sset s k O) nx nx' := h.loop hN (fun cs => by rw [hk]; simp) hkn.1 hkg (fun q hq => z03 (fun e => hq e.symm)) hn
 have hfr1 : ∀ q, q ≠ k → sget (sset s k O) q = sget s q := fun q hq => z03 (fun e => hq e.symm)
 generalize sset s k O = s1 at h1 w_k hfr1 ⊢
 simp only [w_len, w_12, w_13, ↓LA, LB, simprocAttr]
 have w_kz : (nx' + 2 = k) = False ∧ (k = nx' + 2) = False := ⟨by simp; omega, by simp; omega⟩
 refine z0e (fun e0 s0 m env st => ∃ (j nxj lwj : Nat) (sj : List (Nat × Obj)) (xa gw : V) (fs : List (D × V)), m = l.length - j ∧ (j ≤ l.length) ∧ (Op r N n0 ib i kc ws W wi gw w (addL L (l.take j)) fs sj nx nxj) ∧ (GP sj false (fun q => nx' + 3 ≤ q ∧ q < nxj ∧ away gw q) 0 1 false xa (((l.take j).map (ix (addL L (l.take j)))).map intD)) ∧ ((∀ q, q < nx → q ≠ k → q ≠ N.g → q ≠ N.m → away gv q → sget sj q = sget s q)) ∧ ((∀ q, q < nx → away gv q → away gw q)) ∧ ((∀ q, q < nx' + 3 → away gv q → away gw q)) ∧ sget sj (nx' + 2) = some (.cells [.d (.int .i64 1), .d (.int .i64 0), xa, .d (.int .i64 (c : Nat))]) ∧ sget sj (k) = some (O) ∧ nx' + 3 ≤ nxj ∧ 0 ≤ lwj ∧ env.length = 187 ∧ env.getD 70 .undef = .d (.int .i64 j) ∧ env.getD 9 .undef = .ptr N.f 0 ∧ env.getD 10 .undef = .ptr N.c 0 ∧ env.getD 11 .undef = .ptr ib 0 ∧ env.getD 14 .undef = .ptr (nx' + 2) 0 ∧ env.getD 68 .undef = .d (.sl (l.map GoalT.d)) ∧ env.getD 69 .undef = .d (.int .i64 l.length) ∧ st = { s := sj, next := nxj, low := lwj }) ?_ (l.length) (by refine ⟨0, _, _, _, .nilS, gv, es, rfl, by omega, (h1.frame hN (fun q hq => z00 (by omega)) (by omega)), GP.nil, (fun q g1 g2 _ _ _ => (z00 (by omega)).trans (hfr1 q g2)), (fun q _ h => h), (fun q _ h => h), ?_, ?_, (by omega), Nat.zero_le _, ?_, ?_, ?_, ?_, ?_, ?_, ?_, ?_, rfl⟩ <;> simp only [w_len, w_9, w_10, w_11, w_k, w_kz, LB, simprocAttr])
 rintro m env st ⟨j, nxj, lwj, sj, xa, gw, fs, hm, j_0, j_1, j_2, j_3, j_4, j_5, w_jc0, w_jc1, w_jb, w_jlo, w_len, w_70, w_9, w_10, w_11, w_14, w_68, w_69, rfl⟩
 have w_jN := aI (cf1 (x := nxj) (a := nx' + 2) (by omega)) (cf1 (x := nxj) (a := k) (by omega))
 have w_jS := aI (cf2 (x := nxj) (by omega) w_jc0) (cf2 (x := nxj) (by omega) w_jc1)
 obtain ⟨M, hM, hMl⟩ := z9h (l.take j) L
 have hLl : (addL L (l.take j)).length ≤ 100000 := by rw [hM, List.length_append]; rw [List.length_take] at hMl; omega
 have w_f := j_1.o.f
 have w_nf : (nxj = N.f) = False ∧ ∀ q, (nxj + q = N.f) = False := ⟨by simp; omega, fun q => by simp; omega⟩
 have w_j_2V := aI (j_2.away (j := k) (by omega)) (aI (j_2.away (j := nx' + 2) (by omega)) (j_2.away (j := N.f) (by omega)))
 have w_j_2c := j_2.cell.1
 have w_j_2d := j_2.cell.2
 have w_j_2e := j_2.beq
 by_cases hj : j < l.length
 ·simp only [hj, z3r hj, w_len, w_70, w_9, w_14, w_68, w_69, w_jc0, w_jN, w_f, w_nf, ↓LA, LB, simprocAttr]
  have h2 := j_1.frame hN (s' := (nxj + 3, Obj.cells [V.d (D.str l[j].rel), V.d (D.sl (List.map TreeT.d l[j].args))]) :: sj) (nx' := nxj + 14) (fun q hq => z00 (by omega)) (by omega)
  refine z0s (zwo h2.o hN (by omega) (hl _ (List.getElem_mem hj)) (by omega)) fun v st hR => ?_
  obtain ⟨rfl, hn2, hf2, gw', fs', ho, haw⟩ := hR
  obtain ⟨s2, n2, l2⟩ := st
  have hn2 : nxj + 14 ≤ n2 := hn2
  have hf2 : ∀ q, q < nxj + 3 → q ≠ N.m → q ≠ N.g → away gw q → sget s2 q = sget sj q := fun q g1 g2 g3 g4 => (hf2 q (by omega) g2 g3 g4).trans (z00 (by omega))
  have h3 : Op r N n0 ib i kc ws W wi gw' w (addG (addL L (l.take j)) l[j]) fs' s2 nx n2 := h2.step hN (fun q g1 g2 g3 g4 => (hf2 q (by omega) g2 g3 g4).trans (z00 (by omega)).symm) ho (fun q g1 h => haw q (by omega) h) hn2
  have agk : away gw k := j_4 k (by omega) hkg
  have ag2 : away gw (nx' + 2) := j_5 _ (by omega) (h.o.gn _ (by omega))
  have w_b1 : sget s2 (nx' + 2) = _ := (hf2 _ (by omega) (by omega) (by omega) ag2).trans w_jc0
  have w_bk : sget s2 k = some O := (hf2 _ (by omega) (by omega) (by omega) agk).trans w_jc1
  have hxa : GP s2 false (fun q => nx' + 3 ≤ q ∧ q < nxj ∧ away gw q) 0 1 false xa (((l.take j).map (ix (addL L (l.take j)))).map intD) := j_2.frame fun q hq => hf2 q (by have := hq.2.1; omega) (by have := hq.1; omega) (by have := hq.1; omega) hq.2.2
  have w_bz : (nxj = nx' + 2) = False ∧ (∀ o, sget (sset s2 (nx' + 2) o) (nx' + 2) = some o) := ⟨by simp; omega, fun o => z04 w_b1⟩
  simp only [w_len, w_jc0, w_jN, w_j_2e, w_b1, ↓LA, LB, simprocAttr]
  have hxl : (((l.take j).map (ix (addL L (l.take j)))).map intD).length ≤ 100000 := by simp; omega
  refine z52 hxa ?_ (z0j z9c) z02 ?_ ?_ ?_ ?_ ?_ fun chc hc => ?_
  ·intro q hq; obtain ⟨g1, g2, g3⟩ := hq; simp (disch := omega) only [z00]
  ·rfl
  ·omega
  ·omega
  ·omega
  ·rfl
  simp only [z08 hj (by omega), w_len, w_70, w_14, w_jN, w_j_2V, w_b1, ↓LA, LB, simprocAttr]
  have hg2 : away gw' (nx' + 2) := haw _ (by omega) ag2
  have hg10 : away gw' (nxj + 10) := haw _ (by omega) (j_1.o.gn _ (by omega))
  have hg11 : away gw' (nxj + 11) := haw _ (by omega) (j_1.o.gn _ (by omega))
  have hne : ∀ {q a : Nat}, ¬ away gw' q → away gw' a → a ≠ q := fun h1 h2 e => h1 (e ▸ h2)
  have hfin : ∀ Z : List (Nat × Obj), (∀ q, q ≠ nx' + 2 → q ≠ nxj + 10 → q ≠ nxj + 11 → away xa q → sget Z q = sget s2 q) → ∀ n', n2 ≤ n' → Op r N n0 ib i kc ws W wi gw' w (addL L (l.take (j + 1))) fs' Z nx n' := fun Z hZ n' hn' => by
   rw [zgm hj]
   have hx0 : ∀ q, q < nx' + 3 → away xa q := fun q hq => hxa.away (fun h => by have := h.1; omega)
   have hx1 : ∀ q, ¬ away gw' q → away xa q := fun q hq => hxa.away (fun h => hq (haw q (by have := h.2.1; omega) h.2.2))
   refine h3.step hN (fun q g1 g2 g3 g4 => hZ q (by omega) (by omega) (by omega) (hx0 q (by omega))) (h3.o.step hN (fun q g1 g2 => hZ q ?_ ?_ ?_ ?_) hn') (fun _ _ h => h) hn'
   ·exact g1.elim (fun _ => by omega) fun h => fun e => hne h hg2 e.symm
   ·exact g1.elim (fun _ => by omega) fun h => fun e => hne h hg10 e.symm
   ·exact g1.elim (fun _ => by omega) fun h => fun e => hne h hg11 e.symm
   ·exact g1.elim (fun _ => hx0 q (by omega)) fun h => hx1 q h
  have hfin2 : ∀ Z : List (Nat × Obj), sget Z (nxj + 11) = some (.cells (chc ++ [V.d (intD (ix (addG (addL L (l.take j)) l[j]) l[j]))])) → ∀ n', n2 ≤ n' → GP Z false (fun q => nx' + 3 ≤ q ∧ q < n' ∧ away gw' q) 0 1 false (.arr (nxj + 11) 1 false 0 ((l.take j).length + 1)) (((l.take (j + 1)).map (ix (addL L (l.take (j + 1))))).map intD) := fun Z hZ n' hn' => by
   rw [zp4 hj]
   exact zdp [intD (ix (addG (addL L (l.take j)) l[j]) l[j])] hc ⟨by omega, by omega, hg11⟩ hZ (by simp) (by simp) ⟨CQ.int, trivial⟩
  exact z0c (by refine ⟨_, by omega, j + 1, _, _, _, .arr (nxj + 11) 1 false 0 ((l.take j).length + 1), gw', fs', rfl, by omega, (hfin _ (fun q g1 g2 g3 g4 => by simp (disch := omega) only [z00, z03, z07 g4]) _ (Nat.le_add_right _ _)), (hfin2 _ z02 _ (Nat.le_add_right _ _)), (by intro q g1 g2 g3 g4 g5; simp (disch := omega) only [z00, z03, z07 (hxa.away (j := q) (fun h => by have := h.1; omega))]; exact (hf2 q (by omega) g4 g3 (j_4 q g1 g5)).trans (j_3 q g1 g2 g3 g4 g5)), (fun q g1 g2 => haw q (by omega) (j_4 q g1 g2)), (fun q g1 g2 => haw q (by omega) (j_5 q g1 g2)), ?_, ?_, (by omega), Nat.zero_le _, ?_, ?_, ?_, ?_, ?_, ?_, ?_, ?_, rfl⟩ <;> simp only [w_len, w_9, w_10, w_11, w_14, w_68, w_69, w_jN, w_j_2V, w_kz, w_b1, w_bk, LB, simprocAttr])
 ·have hjl : l.take j = l := List.take_of_length_le (by omega)
  rw [hjl] at j_1 j_2 hLl
  have w_c := j_1.cv
  have w_i := j_1.iv
  have w_kv := j_1.kv
  have hwl2 := j_1.wl
  obtain ⟨aib, akc⟩ := j_1.ga
  have w_wi := j_1.hwi.cell
  have w_wb := j_1.hwi.beq
  have hbk : V.beqL (ws ++ [wi]) (ws ++ [wi]) = true := by
   have a := CVs.beq j_1.hws
   clear j_1 w_kv h h1 hwl2
   induction ws with
   | nil => simp [V.beqL, w_wb]
   | cons x ws ih =>
    simp only [List.cons_append, z44, Bool.and_eq_true] at a ⊢
    exact ⟨a.1, ih a.2⟩
  have hia : z0a 1 (.arr kc 1 false 0 (i + 1)) (i : Int) = some (.ptr kc i) := by
   simp only [z0a]
   rw [if_pos ⟨by omega, by omega, trivial⟩]
   simp
  have hcl : (i + 1 ≤ (ws ++ [wi]).length) = True := eq_true (by simp; omega)
  have hct : ((ws ++ [wi]).drop i).take 1 = [wi] := by rw [← hwl2, List.drop_left]; rfl
  have hsp : ∀ x : V, (ws ++ [wi]).take i ++ [x] ++ (ws ++ [wi]).drop (i + 1) = ws ++ [x] := fun x => by
   rw [← hwl2, List.take_left, List.drop_of_length_le (by simp), List.append_nil]
  have w_nz : (∀ q, (nxj + q = N.c) = False) ∧ (∀ q, (nxj + q = ib) = False) ∧ (∀ q, (nxj + q = kc) = False) ∧ (nxj = N.c) = False ∧ (nxj = ib) = False ∧ (nxj = kc) = False := ⟨fun q => by simp; omega, fun q => by simp; omega, fun q => by simp; omega, by simp; omega, by simp; omega, by simp; omega⟩
  have hkc : ∀ cs, sget sj k ≠ some (.cells cs) := fun cs => by rw [w_jc1, hO]; simp
  have hwo := zwy hkc j_1.hwi
  have hws := j_1.hws
  have w_aw : away wi ib ∧ away wi N.c ∧ away wi kc := ⟨b7, hwo.away (fun h => by have := h.1.1; omega), hwo.away (fun h => h.1.2.2.2 rfl)⟩
  simp only [hj, hia, hcl, hct, hbk, w_len, w_70, w_10, w_11, w_14, w_69, w_jc0, w_j_2c, w_c, w_i, w_kv, w_nz, ↓LA, LB, simprocAttr]
  have hwl3 : (w.map SpotT.d).length ≤ 100000 := by simpa using hwl
  refine z52 hwo ?_ (z0j zdy) z02 ?_ ?_ ?_ ?_ ?_ fun chw hw => ?_
  ·intro q hq; obtain ⟨⟨g1, g2, g3⟩, _⟩ := hq; simp (disch := omega) only [z00]
  ·rfl
  ·omega
  ·omega
  ·omega
  ·simp only [List.all_cons, List.all_nil, zjy, j_2.cell.1, Bool.and_self]
  simp only [hia, hcl, hsp, w_len, w_10, w_11, w_c, w_i, w_kv, w_nz, w_aw, ↓LA, LB, simprocAttr]
  obtain ⟨Z, hZ⟩ : ∃ Z, Z = (nxj + 9, Obj.cells (chw ++ [V.d (D.int IntKind.i64 1), V.d (D.int IntKind.i64 0), xa, V.d (D.int IntKind.i64 (c : Nat))])) :: sset (grow wi ((nxj + 8, Obj.cells [V.d (D.int IntKind.i64 1), V.d (D.int IntKind.i64 0), xa, V.d (D.int IntKind.i64 (c : Nat))]) :: sj)) kc (Obj.cells (ws ++ [V.arr (nxj + 9) 4 true 0 (w.length + 1)])) := ⟨_, rfl⟩
  have z0 : ∀ q, q < nxj → q ≠ kc → away wi q → sget Z q = sget sj q := fun q g1 g2 g3 => by rw [hZ]; simp (disch := omega) only [z00, z03, z07 g3]
  have z1 : sget Z kc = some (.cells (ws ++ [V.arr (nxj + 9) 4 true 0 (w.length + 1)])) := by
   rw [hZ, z00 (by omega)]
   refine z04 (x := .cells (ws ++ [wi])) ?_
   simp (disch := omega) only [z07 w_aw.2.2, z00]
   exact w_kv
  have z2 : sget Z (nxj + 9) = some (.cells (chw ++ [V.d (D.int IntKind.i64 1), V.d (D.int IntKind.i64 0), xa, V.d (D.int IntKind.i64 (c : Nat))])) := by rw [hZ]; exact z02
  rw [← hZ]
  have awk : ∀ q, q < n0 → away wi q := fun q hq => hwo.away (fun h => by have := h.1.1; omega)
  have awg : ∀ q, ¬ away gw q → away wi q := fun q hq => hwo.away (fun h => hq h.1.2.2.1)
  have awn : ∀ q, nx ≤ q → away wi q := fun q hq => hwo.away (fun h => by have := h.1.2.1; omega)
  have agk : away gw k := j_4 k (by omega) hkg
  have hzk : sget Z k = some O := (z0 k (by omega) (by omega) hkw).trans w_jc1
  refine ⟨E, [64, 65], oAsg, .block 3 T1.q38_66, hzk.trans (by rw [hO]), ?_⟩
  show zxq r N n0 ib i kc ws W wi gv w L c l s nx (.d (.bool true)) _
  obtain ⟨Y, hY⟩ : ∃ Y, Y = sset Z k (.loop E [64, 65] oAsg (.block 3 T1.q38_66) .ready none) := ⟨_, rfl⟩
  have y0 : ∀ q, q ≠ k → sget Y q = sget Z q := fun q hq => by rw [hY]; exact z03 (fun e => hq e.symm)
  have y1 : sget Y k = sget s k := by rw [hY, hk]; exact z04 hzk
  have y2 : ∀ q, q < nxj → q ≠ k → q ≠ kc → away wi q → sget Y q = sget sj q := fun q g1 g2 g3 g4 => (y0 q g2).trans (z0 q g1 g3 g4)
  have hOp : ∀ n', nxj + 12 ≤ n' → Op r N n0 ib i kc ws W (V.arr (nxj + 9) 4 true 0 (w.length + 1)) gw (w ++ [⟨1, 0, l.map (ix (addL L l)), c⟩]) (addL L l) fs Y n' n' := fun n' hn' => by
   refine ⟨j_1.o.step hN (fun q hq _ => y2 q ?_ ?_ ?_ (hq.elim (awk q) (awg q))) (by omega), (y2 _ (by omega) (by omega) (by omega) w_aw.2.1).trans w_c, (y2 _ (by omega) (by omega) (by omega) b7).trans w_i, (y0 _ (by omega)).trans z1, hwl2, ?_, ?_, ⟨aib, akc⟩, b1, by omega, Nat.le_refl _, b4, by omega, b6, by show ¬ _ = _; omega⟩
   ·exact hq.elim (by omega) fun hq => Classical.byContradiction fun e => hq (j_1.o.gn q (by omega))
   ·exact fun e => hq.elim (by omega) fun hq => hq (e ▸ agk)
   ·exact fun e => hq.elim (by omega) fun hq => hq (e ▸ akc)
   ·exact hws.imp fun v d hv => ((zkk hkc hv).frame fun q hq => y2 q (by have := hq.1.2.1; omega) hq.2 hq.1.2.2.2.1 hq.1.2.2.2.2).mono fun q hq => ⟨hq.1.1, by have := hq.1.2.1; omega, hq.1.2.2.1, hq.1.2.2.2.1, by show ¬ _ = _; have := hq.1.2.1; omega⟩
   ·have en : (w ++ [(⟨1, 0, l.map (ix (addL L l)), c⟩ : SpotT)]).map SpotT.d = w.map SpotT.d ++ [.agg [.int .i64 1, .int .i64 0, .sl ((l.map (ix (addL L l))).map intD), .int .i64 (c : Nat)]] := by rw [List.map_append]; rfl
    have el : w.length = (w.map SpotT.d).length := by rw [List.length_map]
    rw [en, el]
    refine z5p (ys := [V.d (D.int IntKind.i64 1), V.d (D.int IntKind.i64 0), xa, V.d (D.int IntKind.i64 (c : Nat))]) hw (fun q h1 h2 => y2 q (by have := h1.1.2.1; omega) h1.2 h1.1.2.2.2 h2) (fun q h1 => ⟨h1.1.1, by have := h1.1.2.1; omega, h1.1.2.2.1, h1.1.2.2.2⟩) ⟨by omega, by omega, j_1.o.gn _ (by omega), by omega⟩ (fun h => by have := h.1.2.1; omega) ((y0 _ (by omega)).trans z2) rfl ⟨CQ.int, CQ.int, ?_, CQ.int, trivial⟩
    exact CQ.mono (fun q hq => ⟨⟨by have := hq.1; omega, by have := hq.2.1; omega, hq.2.2, by have := hq.1; omega⟩, by have := hq.2.1; omega⟩) (CQ.frame (fun q hq => y2 q hq.2.1 (by have := hq.1; omega) (by have := hq.1; omega) (awn q (by have := hq.1; omega))) (j_2.cv (by omega) (z0j z9c)))
  refine ⟨rfl, by show nx ≤ nxj + _; omega, fun q g1 g2 g3 g4 g5 g6 => ?_, gw, V.arr (nxj + 9) 4 true 0 (w.length + 1), fs, ?_, j_4, fun q g1 _ => by show ¬ _ = _; omega⟩
  ·show sget (sset Z k _) q = _
   rw [← hY]
   by_cases e : q = k
   ·rw [e]; exact y1
   ·exact (y2 q (by omega) e g4 g6).trans (j_3 q g1 e g2 g3 g5)
  ·show Op r N n0 ib i kc ws W _ gw _ _ fs (sset Z k _) _ _
   rw [← hY]
   exact hOp _ (Nat.le_refl _)
end Go.Lift.K
namespace Go.Lift.K
open Go Go.Lift
set_option maxRecDepth 100000
theorem zst {g : GoalT} {kg : Nat} {s : List (Nat × Obj)} {nx lw : Nat} : PostV (z06 G (.fn 58 [] []) [.ptr kg 0, .d g.d] { s := s, next := nx, low := lw }) (fun v st => v = .fn 79 [] [.ptr nx 0, .ptr (nx + 1) 0] ∧ ∃ lw', st = { s := (nx + 1, .cells [.d (.str g.rel), .d (.sl (g.args.map TreeT.d))]) :: (nx, .cells [.ptr kg 0]) :: s, next := nx + 5, low := lw' } ∧ ∀ m, m ≤ lw → m ≤ nx → m ≤ lw') := by
 refine z1k (first := []) (args := [.ptr kg 0, .d g.d]) (cap := []) T1.g58 rfl rfl rfl (fun e w_len harg => ?_)
 have w_len : e.length = 6 := w_len
 have w_0 : e.getD 0 .undef = .ptr kg 0 := harg 0 (by simp)
 have w_1 : e.getD 1 .undef = .d g.d := harg 1 (by simp)
 clear harg
 simp only [T1.i58, GoalT.d, w_len, w_0, w_1, ↓LA, LB, simprocAttr]
 exact ⟨_, rfl, fun m h1 h2 => by repeat' (first | omega | refine z01 ?_ ?_)⟩
theorem zql {kg : Nat} {c0 c1 gv c3 c4 c5 : V} {s : List (Nat × Obj)} {nx lw : Nat} (h : sget s kg = some (.cells [c0, c1, gv, c3, c4, c5])) :
  PostV (z06 G (.fn 18 [] []) [.ptr kg 0] { s := s, next := nx, low := lw }) (fun v st => v = .tup [gv, .d (.int .i64 0)] ∧ st.s = s) := by
 have w_h := h
 refine z1k (first := []) (args := [.ptr kg 0]) (cap := []) T1.g18 rfl rfl rfl (fun e w_len harg => ?_)
 have w_len : e.length = 8 := w_len
 have w_0 : e.getD 0 .undef = .ptr kg 0 := harg 0 (by simp)
 clear harg
 simp only [T1.i18, w_len, w_0, w_h, ↓LA, LB, simprocAttr]
end Go.Lift.K
namespace Go.Lift.K
open Go Go.Lift Classical
set_option maxRecDepth 100000
noncomputable def z2u (L : List GoalT) (p : Nat × List GoalT) : SpotT := ⟨1, 0, p.2.map (ix L), p.1⟩
theorem zlf {L M : List GoalT} {p : Nat × List GoalT} (h : ∀ x ∈ p.2, x ∈ L) : z2u (L ++ M) p = z2u L p := by
 unfold z2u
 rw [List.map_congr_left fun x hx => zwr (h x hx)]
theorem zar {l m : List (Nat × List GoalT)} : z29 (l ++ m) = z29 l ++ z29 m := by simp [z29]
theorem zeu {L M : List GoalT} {l : List (Nat × List GoalT)} (h : ∀ x ∈ z29 l, x ∈ L) : l.map (z2u (L ++ M)) = l.map (z2u L) :=
 List.map_congr_left fun p hp => zlf fun x hx => h x (List.mem_flatMap.2 ⟨p, hp, hx⟩)
theorem zkp {r : RulesT} (h : z0v r = 0) {c : ClauseT} (hc : c ∈ r.clauses) : c.head.length ≤ 3 ∧ c.body.length ≤ 4 ∧ ∀ p ∈ c.body, p.vars.length ≤ 3 := by
 have hcl := (z64 h).2.2 c hc
 unfold z19 at hcl
 cases hq : r.rels.find? (isR c.rel) with
 | none => rw [hq] at hcl; simp at hcl
 | some x =>
  rw [hq] at hcl
  simp only at hcl
  have hx := z7t h (List.mem_of_find?_eq_some hq)
  by_cases e1 : (c.head.length : Int) ≠ x.arity ∨ (4 : Int) < c.body.length ∨ c.head.all few = false
  ·rw [if_pos e1] at hcl; simp at hcl
  rw [if_neg e1] at hcl
  by_cases e2 : c.head.all nmd = false
  ·rw [if_pos e2] at hcl; simp at hcl
  rw [if_neg e2] at hcl
  refine ⟨by omega, by omega, fun p hp => ?_⟩
  have hat := zcd hcl p hp
  unfold z2m at hat
  cases hq2 : r.rels.find? (isR p.name) with
  | none => rw [hq2] at hat; simp at hat
  | some y =>
   rw [hq2] at hat
   simp only at hat
   have hy := z7t h (List.mem_of_find?_eq_some hq2)
   by_cases e1 : (p.vars.length : Int) ≠ y.arity
   ·rw [if_pos e1] at hat; simp at hat
   ·omega
noncomputable def lAt (r : RulesT) (g : GoalT) (L : List GoalT) (c : Nat) : List GoalT := addL L (z29 (z25 r g c))
theorem zq1 {r : RulesT} {g : GoalT} {L : List GoalT} {c : Nat} (h : fitS (clA r c) g) : lAt r g L (c + 1) = addL (lAt r g L c) (z2s (clA r c) g) := by
 unfold lAt
 rw [z2q, zar, zvw, z6w, if_pos h]
 simp [z29]
theorem zq0 {r : RulesT} {g : GoalT} {L : List GoalT} {c : Nat} (h : ¬ fitS (clA r c) g) : lAt r g L (c + 1) = lAt r g L c := by
 unfold lAt
 rw [z2q, z6w, if_neg h, List.append_nil]
theorem zz3 {r : RulesT} {g : GoalT} {L : List GoalT} {c : Nat} : ∀ x ∈ z29 (z25 r g c), x ∈ lAt r g L c := fun x hx => z5c.2 (.inr hx)
theorem y11 {r : RulesT} {g : GoalT} {L : List GoalT} {c : Nat} (h : fitS (clA r c) g) : (z25 r g (c + 1)).map (z2u (lAt r g L (c + 1))) = (z25 r g c).map (z2u (lAt r g L c)) ++ [⟨1, 0, (z2s (clA r c) g).map (ix (addL (lAt r g L c) (z2s (clA r c) g))), c⟩] := by
 rw [zq1 h, z2q, List.map_append]
 obtain ⟨M, e, _⟩ := z9h (z2s (clA r c) g) (lAt r g L c)
 congr 1
 ·rw [e]
  exact zeu zz3
 ·rw [z6w, if_pos h]
  rfl
theorem y10 {r : RulesT} {g : GoalT} {L : List GoalT} {c : Nat} (h : ¬ fitS (clA r c) g) : (z25 r g (c + 1)).map (z2u (lAt r g L (c + 1))) = (z25 r g c).map (z2u (lAt r g L c)) := by
 rw [zq0 h, z2q, z6w, if_neg h, List.append_nil]
theorem zaq {r : RulesT} (hr : z0v r = 0) {g : GoalT} : ∀ {c : Nat}, c ≤ r.clauses.length → (z29 (z25 r g c)).length ≤ 4 * c
 | 0, _ => by simp [z25, z29]
 | c + 1, h => by
  rw [z2q, zar, List.length_append]
  have h1 := zaq hr (g := g) (c := c) (by omega)
  have h2 : (z29 (z6w r g c)).length ≤ 4 := by
   unfold z6w
   by_cases hf : fitS (clA r c) g
   ·rw [if_pos hf]
    have hc : clA r c ∈ r.clauses := by
     have : clA r c = r.clauses[c] := by simp [clA, show c < r.clauses.length by omega]
     rw [this]; exact List.getElem_mem _
    have := zbc hr hc (g := g)
    simpa [z29] using this
   ·rw [if_neg hf]; simp [z29]
  omega
theorem zz4 {r : RulesT} (hr : z0v r = 0) {g : GoalT} {L : List GoalT} {c : Nat} (h : c ≤ r.clauses.length) : (lAt r g L c).length ≤ L.length + 4 * c := by
 obtain ⟨M, e, hl⟩ := z9h (z29 (z25 r g c)) L
 have := zaq hr (g := g) h
 unfold lAt
 rw [e, List.length_append]
 omega
theorem Op.up {r : RulesT} {N : Nm} {n0 ib i kc : Nat} {ws : List V} {W : List (List SpotT)} {wi gv : V} {w : List SpotT} {L : List GoalT} {es : List (D × V)} {s : List (Nat × Obj)} {nw nw' nx : Nat} (h : Op r N n0 ib i kc ws W wi gv w L es s nw nx) (h1 : nw ≤ nw') (h2 : nw' ≤ nx) : Op r N n0 ib i kc ws W wi gv w L es s nw' nx := by
 obtain ⟨k1, k2, k3, k4, k5, k6, k7, k8, b1, b2, b3, b4, b5, b6, b7⟩ := h
 exact ⟨k1, k2, k3, k4, k5, k6.imp fun v d hv => hv.mono fun q hq => ⟨hq.1, by have := hq.2.1; omega, hq.2.2⟩, k7.mono fun q hq => ⟨hq.1, by have := hq.2.1; omega, hq.2.2⟩, k8, b1, by omega, h2, b4, by omega, b6, b7⟩
def zgo (r : RulesT) (N : Nm) (n0 ib i kc : Nat) (ws : List V) (W : List (List SpotT)) (wi gv : V) (w : List SpotT) (L : List GoalT) (g : GoalT) (c : Nat) (s : List (Nat × Obj)) (nx : Nat) (st : St) : Prop :=
 nx ≤ st.next ∧ (∀ q, q < nx → q ≠ N.g → q ≠ N.m → q ≠ kc → away gv q → away wi q → sget st.s q = sget s q) ∧
  ∃ gv' wi' es', Op r N n0 ib i kc ws W wi' gv' (w ++ (z25 r g c).map (z2u (lAt r g L c))) (lAt r g L c) es' st.s st.next st.next ∧ (∀ q, q < nx → away gv q → away gv' q) ∧ ∀ q, q < nx → away wi q → away wi' q
set_option maxHeartbeats 4000000 in
theorem zn6 {r : RulesT} {N : Nm} {n0 ib i kc k u1 u2 : Nat} {ws : List V} {W : List (List SpotT)} {wi gv : V} {w : List SpotT} {L : List GoalT} {g : GoalT} {es : List (D × V)} {s : List (Nat × Obj)} {nx lw : Nat} {E : List V} (hE : Oe N ib E) (hN : N.ok n0) (h : Op r N n0 ib i kc ws W wi gv w L es s nx nx)
  (hk : sget s k = some (.loop E [64, 65] oAsg (.block 3 T1.q38_66) .ready none)) (hkn : n0 ≤ k ∧ k < nx ∧ k ≠ kc ∧ k ≠ ib) (hkg : away gv k) (hkw : away wi k) (hg : Rg r g) (hL : L.length ≤ 50000) (hwl : w.length ≤ 50000) (hi : i ≤ 100000)
  (hu1 : sget s u1 = some (.cells [.ptr N.g 0])) (hu2 : sget s u2 = some (.cells [.d (.str g.rel), .d (.sl (g.args.map TreeT.d))])) (hun : (n0 ≤ u1 ∧ u1 < nx ∧ u1 ≠ kc) ∧ (n0 ≤ u2 ∧ u2 < nx ∧ u2 ≠ kc)) (hug : away gv u1 ∧ away gv u2) (huw : away wi u1 ∧ away wi u2) :
  PostV (z06 G (.fn 79 [] [.ptr u1 0, .ptr u2 0]) [.yld k] { s := s, next := nx, low := lw }) (fun _ st => zgo r N n0 ib i kc ws W wi gv w L g r.clauses.length s nx st) := by
 obtain ⟨l1, l2, l3, l4, l5, l6⟩ := hN.lt
 obtain ⟨b1, b2, b3, b4, b5, b6, b7⟩ := h.lt
 obtain ⟨hch, _⟩ := z1g hg.1
 obtain ⟨hcl, hrl, _⟩ := z64 hch
 obtain ⟨_, _, _, _, x5, x6, x7, _⟩ := hg.rel
 have w_g : sget s N.g = some (.cells [.d (.sl (r.rels.map RelT.d)), .d (.sl (r.clauses.map ClauseT.d)), gv, .nilS, .nilS, .fn 55 [.ptr N.g 0] []]) := h.o.g
 have w_u1 := hu1
 have w_u2 := hu2
 have hx0 : ∀ a b : V, [a, b][0]? = some a := fun _ _ => rfl
 have hx1 : ∀ a b : V, [a, b][1]? = some b := fun _ _ => rfl
 refine z1k (first := []) (args := [.yld k]) (cap := [.ptr u1 0, .ptr u2 0]) T1.g79 rfl rfl rfl (fun e w_len harg => ?_)
 have w_len : e.length = 38 := w_len
 have w_0 : e.getD 0 .undef = .yld k := harg 0 (by simp)
 have w_1 : e.getD 1 .undef = .ptr u1 0 := harg 1 (by simp)
 have w_2 : e.getD 2 .undef = .ptr u2 0 := harg 2 (by simp)
 clear harg
 simp only [T1.i79, List.length_map, w_len, w_1, w_g, w_u1, ↓LA, LB, simprocAttr]
 have h0 : ∀ n', nx ≤ n' → ∀ lw', zgo r N n0 ib i kc ws W wi gv w L g 0 s nx { s := s, next := n', low := lw' } := fun n' hn' lw' => by
  refine ⟨hn', fun _ _ _ _ _ _ _ => rfl, gv, wi, es, ?_, fun _ _ h => h, fun _ _ h => h⟩
  have e : (z25 r g 0).map (z2u (lAt r g L 0)) = [] := by simp [z25]
  rw [e, List.append_nil]
  exact (h.frame hN (fun _ _ => rfl) hn').up hn' (Nat.le_refl _)
 refine z0e (fun e0 s0 m env st => ∃ (c nxc lwc : Nat) (sc : List (Nat × Obj)), m = r.clauses.length - c ∧ (c ≤ r.clauses.length) ∧ (zgo r N n0 ib i kc ws W wi gv w L g c s nx { s := sc, next := nxc, low := lwc }) ∧ nx + 7 ≤ nxc ∧ 0 ≤ lwc ∧ env.length = 38 ∧ env.getD 13 .undef = .d (.int .i64 c) ∧ env.getD 0 .undef = .yld k ∧ env.getD 1 .undef = .ptr u1 0 ∧ env.getD 2 .undef = .ptr u2 0 ∧ env.getD 12 .undef = .d (.int .i64 r.clauses.length) ∧ st = { s := sc, next := nxc, low := lwc }) ?_ (r.clauses.length) (by refine ⟨0, _, _, _, rfl, by omega, h0 _ (by omega) _, (by omega), Nat.zero_le _, ?_, ?_, ?_, ?_, ?_, ?_, rfl⟩ <;> simp only [w_len, w_0, w_1, w_2, LB, simprocAttr])
 rintro m env st ⟨c, nxc, lwc, sc, hm, c_0, c_1, w_cb, w_clo, w_len, w_13, w_0, w_1, w_2, w_12, rfl⟩
 have w_cZ := zf (x := nxc) (b := nx) (n := 7) (by omega) (by omega)
 obtain ⟨d1, d2, gw, wj, fs, hO, d3, d4⟩ := c_1
 have hO : Op r N n0 ib i kc ws W wj gw (w ++ (z25 r g c).map (z2u (lAt r g L c))) (lAt r g L c) fs sc nxc nxc := hO
 have d2 : ∀ q, q < nx → q ≠ N.g → q ≠ N.m → q ≠ kc → away gv q → away wi q → sget sc q = sget s q := d2
 obtain ⟨c1, c2, c3, c4, c5, c6, c7⟩ := hO.lt
 have w_g : sget sc N.g = some (.cells [.d (.sl (r.rels.map RelT.d)), .d (.sl (r.clauses.map ClauseT.d)), gw, .nilS, .nilS, .fn 55 [.ptr N.g 0] []]) := hO.o.g
 have w_u1 : sget sc u1 = _ := (d2 u1 (by omega) (by omega) (by omega) (by omega) hug.1 huw.1).trans hu1
 have w_u2 : sget sc u2 = _ := (d2 u2 (by omega) (by omega) (by omega) (by omega) hug.2 huw.2).trans hu2
 have hkk : sget sc k = _ := (d2 k (by omega) (by omega) (by omega) (by omega) hkg hkw).trans hk
 by_cases hc : c < r.clauses.length
 ·obtain ⟨cl, hcd⟩ : ∃ cl, cl = r.clauses[c] := ⟨_, rfl⟩
  have hcm : cl ∈ r.clauses := by rw [hcd]; exact List.getElem_mem hc
  have hca : clA r c = cl := by rw [hcd]; simp [clA, hc]
  have hcf := z7s hg.1 hcm
  have hia := z5m hc
  rw [← hcd] at hia
  obtain ⟨y1, y2, y3⟩ := zkp hch hcm
  have hB := fun st => zfg (c := cl) (g := g) hg.2 (by omega) (by omega) hcf.len hcf.hd (by omega) (fun p hp => by have := y3 p hp; omega) (hcf.th g) st
  simp only [ClauseT.d, GoalT.d] at hB
  by_cases hf : fitS cl g
  ·have hbd : z6h cl g = [.sl ((z2s cl g).map GoalT.d), .bool true] := if_pos hf
   rw [hbd] at hB
   simp only [List.map_cons, List.map_nil, tupV] at hB
   simp only [hc, hia, hB, hx0, hx1, w_len, w_13, w_0, w_1, w_2, w_12, w_g, w_u1, w_u2, ↓LA, LB, simprocAttr]
   have hLc := zz4 hch (g := g) (L := L) (c := c) (by omega)
   have hfl := zaw (r := r) (g := g) (n := c)
   have hbl := zbc hch hcm (g := g)
   refine z0s (zd1 (c := c) (l := z2s cl g) (k := k) hE hN ((hO.frame hN (s' := sc) (nx' := nxc + 26) (fun _ _ => rfl) (by omega)).up (by omega) (Nat.le_refl _)) hkk ⟨hkn.1, by omega, hkn.2.2.1, hkn.2.2.2⟩ (d3 k hkn.2.1 hkg) (d4 k hkn.2.1 hkw) (fun x hx => zix hg hcm hf hx) (by omega) (by rw [List.length_append, List.length_map]; omega) hi) fun v st hR => ?_
   obtain ⟨rfl, f1, f2, gw', wj', fs', hO', f3, f4⟩ := hR
   obtain ⟨s2, n2, lw2⟩ := st
   have f1 : nxc + 26 ≤ n2 := f1
   simp only [z08 hc (by omega), w_len, w_13, ↓LA, LB, simprocAttr]
   have hU : ∀ n' lw', n2 ≤ n' → zgo r N n0 ib i kc ws W wi gv w L g (c + 1) s nx { s := s2, next := n', low := lw' } := fun n' lw' hn' => by
    refine ⟨by show nx ≤ n'; omega, fun q g1 g2 g3 g4 g5 g6 => (f2 q (by omega) g2 g3 g4 (d3 q g1 g5) (d4 q g1 g6)).trans (d2 q g1 g2 g3 g4 g5 g6), gw', wj', fs', ?_, fun q g1 g2 => f3 q (by omega) (d3 q g1 g2), fun q g1 g2 => f4 q (by omega) (d4 q g1 g2)⟩
    rw [y11 (by rw [hca]; exact hf), zq1 (by rw [hca]; exact hf), hca, ← List.append_assoc]
    exact (hO'.frame hN (fun _ _ => rfl) hn').up hn' (Nat.le_refl _)
   exact z0c (by refine ⟨_, by omega, c + 1, _, _, _, rfl, by omega, hU _ _ (by omega), (by omega), Nat.zero_le _, ?_, ?_, ?_, ?_, ?_, ?_, rfl⟩ <;> simp only [w_len, w_0, w_1, w_2, w_12, LB, simprocAttr])
  ·have hbd : z6h cl g = [.sl [], .bool false] := if_neg hf
   rw [hbd] at hB
   simp only [List.map_cons, List.map_nil, tupV] at hB
   simp only [hc, hia, hB, hx0, hx1, z08 hc (by omega), w_len, w_13, w_1, w_2, w_12, w_g, w_u1, w_u2, ↓LA, LB, simprocAttr]
   have hU : ∀ n' lw', nxc ≤ n' → zgo r N n0 ib i kc ws W wi gv w L g (c + 1) s nx { s := sc, next := n', low := lw' } := fun n' lw' hn' => by
    refine ⟨by show nx ≤ n'; omega, d2, gw, wj, fs, ?_, d3, d4⟩
    rw [y10 (by rw [hca]; exact hf), zq0 (by rw [hca]; exact hf)]
    exact (hO.frame hN (fun _ _ => rfl) hn').up hn' (Nat.le_refl _)
   exact z0c (by refine ⟨_, by omega, c + 1, _, _, _, rfl, by omega, hU _ _ (by omega), (by omega), Nat.zero_le _, ?_, ?_, ?_, ?_, ?_, ?_, rfl⟩ <;> simp only [w_len, w_0, w_1, w_2, w_12, LB, simprocAttr])
 ·have hce : c = r.clauses.length := by omega
  simp only [hc, w_len, w_13, w_12, ↓LA, LB, simprocAttr]
  subst hce
  exact ⟨by show nx ≤ nxc + _; omega, d2, gw, wj, fs, (hO.frame hN (fun _ _ => rfl) (by show nxc ≤ nxc + _; omega)).up (by show nxc ≤ nxc + _; omega) (Nat.le_refl _), d3, d4⟩
end Go.Lift.K
