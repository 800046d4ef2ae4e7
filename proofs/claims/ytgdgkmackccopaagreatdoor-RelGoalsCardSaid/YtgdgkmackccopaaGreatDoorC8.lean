/- Part C8 of the proof. -/
import Derived.Test.YtgdgkmackccopaaGreatDoorC7
import Derived.Test.YtgdgkmackccopaaGreatDoorA7
import Derived.Test.YtgdgkmackccopaaGreatDoorB6
import Derived.Test.YtgdgkmackccopaaGreatDoorC1
import Derived.Test.YtgdgkmackccopaaGreatDoorC4
import Derived.Test.YtgdgkmackccopaaGreatDoorC3
set_option linter.all false
namespace Go.Lift.K
open Go Go.Lift Classical
set_option maxRecDepth 100000
theorem ze1 {s s' : List (Nat × Obj)} : ∀ {n : Nat} {S : Nat → Prop} {v : V} {d : D}, (∀ q, S q → sget s' q = sget s q) → CZ s S n v d → CZ s' S n v d
 | 0, _, _, _, _, h => h
 | n + 1, S, v, d, hs, h => by
  refine h.imp id fun h => h.imp id ?_
  rintro ⟨k, es, ag, ds, e1, e2, e3, e4, e5, e6⟩
  refine ⟨k, es, ag, ds, e1, e2, e3, e4, e5, ?_⟩
  rw [hs k e3]
  exact e6.imp (fun ⟨cs, f1, f2⟩ => ⟨cs, f1, f2.imp fun v d h => ze1 (fun q hq => hs q hq.1) h⟩) id
def Sk2 (k5 k6 nB : Nat) (q : Nat) : Prop := q < nB ∧ q ≠ k5 ∧ q ≠ k6
structure Lw (r : RulesT) (a b : V) (k5 k6 nB : Nat) (s : List (Nat × Obj)) : Prop where
 c5 : sget s k5 = some (.cells [a, b])
 a : CZ s (Sk2 k5 k6 nB) 9 a (.sl (r.rels.map RelT.d))
 b : CZ s (Sk2 k5 k6 nB) 9 b (.sl (r.clauses.map ClauseT.d))
theorem Lw.step {r : RulesT} {a b : V} {k5 k6 nB : Nat} {s s' : List (Nat × Obj)} (h : Lw r a b k5 k6 nB s) (hs : Fz1 (Sk2 k5 k6 nB) s s') : Lw r a b k5 k6 nB s' := ⟨(hs.2 _ (fun e => e.2.1 rfl)).trans h.c5, hs.1 _ _ _ _ h.a, hs.1 _ _ _ _ h.b⟩
theorem Lw.frame {r : RulesT} {a b : V} {k5 k6 nB : Nat} {s s' : List (Nat × Obj)} (h : Lw r a b k5 k6 nB s) (h5 : k5 < nB) (hs : ∀ q, q < nB → sget s' q = sget s q) : Lw r a b k5 k6 nB s' := ⟨(hs _ h5).trans h.c5, ze1 (fun q hq => hs q hq.1) h.a, ze1 (fun q hq => hs q hq.1) h.b⟩
theorem Lw.az {r : RulesT} {a b : V} {k5 k6 nB : Nat} {s : List (Nat × Obj)} (h : Lw r a b k5 k6 nB s) : AZ s (Sk2 k5 k6 nB) (mkAgg [a, b]) r.d :=
 .inr ⟨[a, b], [.sl (r.rels.map RelT.d), .sl (r.clauses.map ClauseT.d)], rfl, rfl, ⟨h.a, h.b, trivial⟩, rfl⟩
structure FA (r : RulesT) (L : List GoalT) (i c m : Nat) (B : List GoalT) (fs : List Bool) : Prop where
 len : fs.length = L.length
 zero : fs.getD 0 false = true
 old : ∀ q (hq : q < L.length), q < i → ∀ p ∈ z25 r L[q] r.clauses.length, ∀ x ∈ p.2, q < ix L x → fs.getD (ix L x) false = true
 cl : ∀ (hi : i < L.length), ∀ p ∈ z25 r L[i] c, ∀ x ∈ p.2, i < ix L x → fs.getD (ix L x) false = true
 now : ∀ x ∈ B.take m, i < ix L x → fs.getD (ix L x) false = true
theorem zqm {fs : List Bool} {n j : Nat} {b : Bool} (h : fs.getD j false = true) (hb : fs.getD n false = true → b = true) (hn : n < fs.length) : (fs.set n b).getD j false = true := by
 simp only [List.getD_eq_getElem?_getD] at h hb ⊢
 by_cases e : n = j
 ·subst e
  rw [List.getElem?_set_self hn]
  simpa using hb h
 ·rw [List.getElem?_set_ne e]; exact h
theorem FA.put {r : RulesT} {L B : List GoalT} {i c m : Nat} {fs : List Bool} (h : FA r L i c m B fs) (hm : m < B.length) (hB : B[m] ∈ L) : FA r L i c (m + 1) B (fs.set (ix L B[m]) (fs.getD (ix L B[m]) false || decide (i < ix L B[m]))) := by
 obtain ⟨h1, h2, h3, h4, h5⟩ := h
 obtain ⟨hx, _⟩ := zug hB
 have hmn : ∀ j, fs.getD j false = true → (fs.set (ix L B[m]) (fs.getD (ix L B[m]) false || decide (i < ix L B[m]))).getD j false = true := fun j hj => zqm hj (fun h => by rw [h]; rfl) (by omega)
 refine ⟨by rw [List.length_set]; exact h1, hmn _ h2, fun q hq hqi p hp x hx hl => hmn _ (h3 q hq hqi p hp x hx hl), fun hi p hp x hx hl => hmn _ (h4 hi p hp x hx hl), fun x hx hl => ?_⟩
 rw [List.take_add_one, List.getElem?_eq_getElem hm] at hx
 rcases List.mem_append.1 hx with hx | hx
 ·exact hmn _ (h5 x hx hl)
 ·simp only [Option.toList_some, List.mem_singleton] at hx
  subst hx
  simp only [List.getD_eq_getElem?_getD]
  rw [List.getElem?_set_self (by omega)]
  simp [hl]
theorem FA.nextc {r : RulesT} {L B : List GoalT} {i c : Nat} {fs : List Bool} (h : FA r L i c B.length B fs) (hi : i < L.length) (hB : z6w r L[i] c = [(c, B)]) : FA r L i (c + 1) 0 [] fs := by
 obtain ⟨h1, h2, h3, h4, h5⟩ := h
 refine ⟨h1, h2, h3, fun hi' p hp x hx hl => ?_, fun x hx => by simp at hx⟩
 rw [z2q, hB] at hp
 rcases List.mem_append.1 hp with hp | hp
 ·exact h4 hi p hp x hx hl
 ·rw [List.mem_singleton] at hp
  subst hp
  exact h5 x (by rw [List.take_length]; exact hx) hl
theorem FA.skipc {r : RulesT} {L : List GoalT} {i c : Nat} {fs : List Bool} (h : FA r L i c 0 [] fs) (hi : i < L.length) (hB : z6w r L[i] c = []) : FA r L i (c + 1) 0 [] fs := by
 obtain ⟨h1, h2, h3, h4, h5⟩ := h
 refine ⟨h1, h2, h3, fun hi' p hp x hx hl => ?_, fun x hx => by simp at hx⟩
 rw [z2q, hB, List.append_nil] at hp
 exact h4 hi p hp x hx hl
theorem FA.nexti {r : RulesT} {L : List GoalT} {i : Nat} {fs : List Bool} (h : FA r L i r.clauses.length 0 [] fs) (hi : i < L.length) : FA r L (i + 1) 0 0 [] fs := by
 obtain ⟨h1, h2, h3, h4, h5⟩ := h
 refine ⟨h1, h2, fun q hq hqi p hp x hx hl => ?_, fun hi' p hp => by simp [z25] at hp, fun x hx => by simp at hx⟩
 by_cases e : q = i
 ·subst e; exact h4 hi p hp x hx hl
 ·exact h3 q hq (by omega) p hp x hx hl
theorem FA.all {r : RulesT} {g : GoalT} {L : List GoalT} {fs : List Bool} (hG : Goals r g L) (h : FA r L L.length 0 0 [] fs) : false ∉ fs := by
 intro hf
 obtain ⟨j, hj, e⟩ := List.mem_iff_getElem.1 hf
 have hjL : j < L.length := by rw [← h.len]; exact hj
 have : fs.getD j false = true := by
  by_cases h0 : j = 0
  ·rw [h0]; exact h.zero
  ·obtain ⟨q, hq, hqj, p, hp, hx⟩ := hG.found2 hjL (by omega)
   have := h.old q hq hq p hp L[j] hx (by rw [zdm hG.nodup hjL]; exact hqj)
   rwa [zdm hG.nodup hjL] at this
 simp [hj, e] at this
def bcs (fs : List Bool) : List V := scs (fs.map D.bool)
theorem zxm {fs : List Bool} {n : Nat} (h : n < fs.length) : (n + 1 ≤ (bcs fs).length) = True ∧ ((bcs fs).drop n).take 1 = [.d (.bool (fs.getD n false))] ∧ ∀ b, (bcs fs).take n ++ [.d (.bool b)] ++ (bcs fs).drop (n + 1) = bcs (fs.set n b) := by
 have h' : n < (fs.map D.bool).length := by simpa using h
 obtain ⟨a1, a2⟩ := zbu h'
 refine ⟨a1, ?_, fun b => ?_⟩
 ·unfold bcs
  rw [a2]
  simp [h]
 ·have := (z6m (x := .bool b) h').2
  unfold bcs
  rw [this, List.map_set]
end Go.Lift.K
namespace Go.Lift.K
open Go Go.Lift Classical
set_option maxRecDepth 100000
noncomputable def blD (r : RulesT) (c : Nat) (g : GoalT) : List D := if fitS (clA r c) g then [.sl ((z2s (clA r c) g).map GoalT.d), .int .i64 0] else [.sl [], .int .i64 7]
theorem zqn {r : RulesT} (hr : r.ok) {g : GoalT} (hg : Rg r g) {c : Nat} (hc : c < r.clauses.length) (st : St) :
  z06 G (.fn 10 [] []) [.d r.d, .d (.int .i64 (c : Nat)), .d g.d] st = some (tupV ((blD r c g).map V.d), st) := by
 have hx0 : ∀ a b : V, [a, b][0]? = some a := fun _ _ => rfl
 have hx1 : ∀ a b : V, [a, b][1]? = some b := fun _ _ => rfl
 have hgk := hg.ok hr
 have hC := fun st => zi4 hr (n := (c : Nat)) hgk st
 obtain ⟨hch, _⟩ := z1g hg.1
 obtain ⟨_, _, _, _, x5, x6, x7, _⟩ := hg.rel
 have h0 : z5r r (c : Nat) g = 0 := by unfold z5r; rw [if_pos hg.1, if_neg (by omega)]
 have hL := fun st => za5 (g := g) (by omega) hg.2.og st
 rw [hg.2.fix] at hL
 obtain ⟨cl, hcd⟩ : ∃ cl, cl = r.clauses[c] := ⟨_, rfl⟩
 have hcm : cl ∈ r.clauses := by rw [hcd]; exact List.getElem_mem hc
 have hca : clA r c = cl := by rw [hcd]; simp [clA, hc]
 have hcf := z7s hg.1 hcm
 obtain ⟨y1, y2, y3⟩ := zkp hch hcm
 have hB := fun st => zfg (c := cl) (g := g) hg.2 (by omega) (by omega) hcf.len hcf.hd (by omega) (fun p hp => by have := y3 p hp; omega) (hcf.th g) st
 have hia := z5m hc
 rw [← hcd] at hia
 unfold blD
 rw [hca]
 simp only [RulesT.d, GoalT.d, ClauseT.d] at hC hL hB
 refine z15 (ds := [r.d, .int .i64 (c : Nat), g.d]) (rs := (if fitS cl g then [.sl ((z2s cl g).map GoalT.d), .int .i64 0] else [.sl [], .int .i64 7])) T1.g10 rfl rfl (fun e w_len harg => ?_) st
 have w_len : e.length = 32 := w_len
 have w_0 := harg 0 (by simp)
 have w_1 := harg 1 (by simp)
 have w_2 := harg 2 (by simp)
 clear harg
 simp only [List.map_cons, List.map_nil, List.getD_cons_zero, List.getD_cons_succ] at w_0 w_1 w_2
 by_cases hf : fitS cl g
 ·have hD : z6h cl g = _ := if_pos hf
  rw [hD] at hB
  simp only [List.map_cons, List.map_nil, tupV] at hB
  simp only [T1.i10, RulesT.d, GoalT.d, hC, h0, hL, hia, hB, hx0, hx1, w_len, w_0, w_1, w_2, ↓LA, LB, simprocAttr]
  exact rq2 (by rw [if_pos hf])
 ·have hD : z6h cl g = _ := if_neg hf
  rw [hD] at hB
  simp only [List.map_cons, List.map_nil, tupV] at hB
  simp only [T1.i10, RulesT.d, GoalT.d, hC, h0, hL, hia, hB, hx0, hx1, w_len, w_0, w_1, w_2, ↓LA, LB, simprocAttr]
  exact rql2 (x := .sl []) (y := .int .i64 7) (by simp [snap, z09]) (by simp [snap, z09]) (by rw [if_neg hf])
set_option maxHeartbeats 4000000 in
theorem zu6 {r : RulesT} (hr : r.ok) {g0 : GoalT} (hrg : Rg r g0) {L : List GoalT} (hG : Goals r g0 L) {a b : V} {k5 k6 nB kf i c nx lw : Nat} {s : List (Nat × Obj)} {fs : List Bool} {E : List V} {Q : Ex → List V → St → Prop}
  (h5 : k5 < nB) (hf : nB ≤ kf ∧ kf < nx) (hi : i < L.length) (hc : c < r.clauses.length) (hfit : fitS (clA r c) L[i]) (hLw : Lw r a b k5 k6 nB s) (hfs : sget s kf = some (.cells (bcs fs))) (hFA : FA r L i c 0 [] fs)
  (w_len : E.length = 119) (w_7 : E.getD 7 .undef = .d (.sl (L.map GoalT.d))) (w_9 : E.getD 9 .undef = .arr kf 1 false 0 L.length) (w_10 : E.getD 10 .undef = .d (.int .i64 (i : Nat))) (w_14 : E.getD 14 .undef = .d (.int .i64 0)) (w_83 : E.getD 83 .undef = .d (.sl ((z2s (clA r c) L[i]).map GoalT.d))) (w_84 : E.getD 84 .undef = .d (.int .i64 (z2s (clA r c) L[i]).length)) (w_85 : E.getD 85 .undef = .d (.int .i64 0))
  (hQ : ∀ e st fs', e.length = 119 → (∀ l, (l < 16 ∨ 18 ≤ l) → l < 85 → e.getD l .undef = E.getD l .undef) → Lw r a b k5 k6 nB st.s → sget st.s kf = some (.cells (bcs fs')) → FA r L i (c + 1) 0 [] fs' → (∀ q, q < nx → q ≠ kf → sget st.s q = sget s q) → nx ≤ st.next → Q .nrm e st) :
  PC (z0i (z06 G) z0h none (.block 4 (.loop T1.q3_86)) E { s := s, next := nx, low := lw }) Q .mk := by
 obtain ⟨B, hB⟩ : ∃ B, B = z2s (clA r c) L[i] := ⟨_, rfl⟩
 have hLr := hG.rg hrg
 have hcm : clA r c ∈ r.clauses := by
  have : clA r c = r.clauses[c] := by simp [clA, hc]
  rw [this]; exact List.getElem_mem hc
 have hBL : ∀ x ∈ B, x ∈ L := fun x hx => hG.closed hi (p := (c, B)) (zav.2 ⟨hc, hfit, hB⟩) hx
 have hm300 := hG.most
 obtain ⟨hch, _⟩ := z1g hrg.1
 have hBl : B.length ≤ 4 := by rw [hB]; exact zbc hch hcm
 have hLok : ∀ x ∈ L, x.ok := fun x hx => (hLr x hx).ok hr
 rw [← hB] at w_83 w_84
 have w_fs := hfs
 simp only [↓LA, simprocAttr]
 refine z0e (fun e0 s0 m env st => ∃ (u nxu lwu : Nat) (su : List (Nat × Obj)) (gs : List Bool), m = B.length - u ∧ (u ≤ B.length) ∧ (Lw r a b k5 k6 nB su) ∧ (FA r L i c u B gs) ∧ ((∀ q, q < nx → q ≠ kf → sget su q = sget s q)) ∧ ((∀ l, (l < 16 ∨ 18 ≤ l) → l < 85 → env.getD l .undef = E.getD l .undef)) ∧ sget su (kf) = some (.cells (bcs gs)) ∧ nx ≤ nxu ∧ 0 ≤ lwu ∧ env.length = 119 ∧ env.getD 85 .undef = .d (.int .i64 u) ∧ env.getD 7 .undef = .d (.sl (L.map GoalT.d)) ∧ env.getD 9 .undef = .arr kf 1 false 0 L.length ∧ env.getD 10 .undef = .d (.int .i64 (i : Nat)) ∧ env.getD 14 .undef = .d (.int .i64 0) ∧ env.getD 83 .undef = .d (.sl (B.map GoalT.d)) ∧ env.getD 84 .undef = .d (.int .i64 B.length) ∧ st = { s := su, next := nxu, low := lwu }) ?_ (B.length) (by refine ⟨0, _, _, _, fs, rfl, by omega, hLw, ⟨hFA.len, hFA.zero, hFA.old, hFA.cl, fun x hx => by simp at hx⟩, (fun q _ _ => rfl), (fun l _ _ => rfl), ?_, (by omega), Nat.zero_le _, ?_, ?_, ?_, ?_, ?_, ?_, ?_, ?_, rfl⟩ <;> simp only [w_len, w_7, w_9, w_10, w_14, w_83, w_84, w_85, w_fs, LB, simprocAttr])
 rintro m env st ⟨u, nxu, lwu, su, gs, hm, u_0, u_1, u_2, u_3, u_4, w_uc0, w_ub, w_ulo, w_len, w_85, w_7, w_9, w_10, w_14, w_83, w_84, rfl⟩
 have w_uN := cf1 (x := nxu) (a := kf) (by omega)
 have w_uS := cf2 (x := nxu) (by omega) w_uc0
 by_cases hu : u < B.length
 ·have hxL := hBL _ (List.getElem_mem hu)
  obtain ⟨hix, hixe⟩ := zug hxL
  have hP := fun st => zj4 (g := B[u]) (hLok _ hxL) hLok (by unfold LOk; omega) st
  rw [zj5 hLr hxL] at hP
  simp only [GoalT.d] at hP
  have hput := u_2.put hu hxL
  have hgl := u_2.len
  obtain ⟨n, hn⟩ : ∃ n, n = ix L B[u] := ⟨_, rfl⟩
  rw [← hn] at hP hix hput
  have hia := z5n (k := kf) (ag := false) hix
  obtain ⟨t1, t2, t3⟩ := zxm (fs := gs) (n := n) (by omega)
  have hlt : ((n : Int) < 0) = False := eq_false (by omega)
  have hkz : ∀ q, (nxu + q = kf) = False := fun q => by simp; omega
  have w_kz : (∀ q, (nxu + q = kf) = False) ∧ (∀ o, sget (sset su kf o) kf = some o) := ⟨hkz, fun o => z04 w_uc0⟩
  have hfin : ∀ Z : List (Nat × Obj), ∀ gs', (∀ q, q < nx → q ≠ kf → sget Z q = sget su q) → FA r L i c (u + 1) B gs' → Lw r a b k5 k6 nB Z ∧ FA r L i c (u + 1) B gs' ∧ (∀ q, q < nx → q ≠ kf → sget Z q = sget s q) := fun Z gs' hZ hFA' =>
   ⟨u_1.frame h5 fun q hq => hZ q (by omega) (by omega), hFA', fun q g1 g2 => (hZ q g1 g2).trans (u_3 q g1 g2)⟩
  cases hbb : gs.getD n false with
  | true =>
   rw [hbb] at t2 hput
   simp only [Bool.true_or] at hput
   simp only [hu, z3r hu, hP, hia, hlt, t1, t2, t3, z08 hu (by omega), w_len, w_85, w_7, w_9, w_14, w_83, w_84, w_uc0, w_uN, ↓LA, LB, simprocAttr]
   have hz : ∀ q, q < nx → q ≠ kf → sget ((nxu + 3, Obj.cells [V.d (D.str B[u].rel), V.d (D.sl (List.map TreeT.d B[u].args))]) :: sset su kf (Obj.cells (bcs (gs.set n true)))) q = sget su q := fun q g1 g2 => by rw [z00 (by omega), z03 (by omega)]
   obtain ⟨y1, y2, y3⟩ := hfin _ _ hz hput
   exact z0c (by refine ⟨_, by omega, u + 1, _, _, _, gs.set n true, rfl, by omega, y1, y2, y3, (by intro l g1 g2; simp (disch := omega) only [z0f]; exact u_4 l g1 g2), ?_, (by omega), Nat.zero_le _, ?_, ?_, ?_, ?_, ?_, ?_, ?_, ?_, rfl⟩ <;> simp only [w_len, w_7, w_9, w_10, w_14, w_83, w_84, w_uN, w_uS, LB, simprocAttr])
  | false =>
   rw [hbb] at t2 hput
   simp only [Bool.false_or] at hput
   by_cases hni : i < n
   ·have hgt : ((i : Int) < (n : Nat)) = True := eq_true (by omega)
    simp only [hni, decide_true] at hput
    simp only [hu, z3r hu, hP, hia, hlt, hgt, t1, t2, t3, z08 hu (by omega), w_len, w_85, w_7, w_9, w_10, w_14, w_83, w_84, w_uc0, w_uN, ↓LA, LB, simprocAttr]
    have hz : ∀ q, q < nx → q ≠ kf → sget ((nxu + 3, Obj.cells [V.d (D.str B[u].rel), V.d (D.sl (List.map TreeT.d B[u].args))]) :: sset su kf (Obj.cells (bcs (gs.set n true)))) q = sget su q := fun q g1 g2 => by rw [z00 (by omega), z03 (by omega)]
    obtain ⟨y1, y2, y3⟩ := hfin _ _ hz hput
    exact z0c (by refine ⟨_, by omega, u + 1, _, _, _, gs.set n true, rfl, by omega, y1, y2, y3, (by intro l g1 g2; simp (disch := omega) only [z0f]; exact u_4 l g1 g2), ?_, (by omega), Nat.zero_le _, ?_, ?_, ?_, ?_, ?_, ?_, ?_, ?_, rfl⟩ <;> simp only [w_len, w_7, w_9, w_10, w_14, w_83, w_84, w_uN, w_uS, LB, simprocAttr])
   ·have hgt : ((i : Int) < (n : Nat)) = False := eq_false (by omega)
    simp only [hni, decide_false] at hput
    simp only [hu, z3r hu, hP, hia, hlt, hgt, t1, t2, t3, z08 hu (by omega), w_len, w_85, w_7, w_9, w_10, w_14, w_83, w_84, w_uc0, w_uN, ↓LA, LB, simprocAttr]
    have hz : ∀ q, q < nx → q ≠ kf → sget ((nxu + 3, Obj.cells [V.d (D.str B[u].rel), V.d (D.sl (List.map TreeT.d B[u].args))]) :: sset su kf (Obj.cells (bcs (gs.set n false)))) q = sget su q := fun q g1 g2 => by rw [z00 (by omega), z03 (by omega)]
    obtain ⟨y1, y2, y3⟩ := hfin _ _ hz hput
    exact z0c (by refine ⟨_, by omega, u + 1, _, _, _, gs.set n false, rfl, by omega, y1, y2, y3, (by intro l g1 g2; simp (disch := omega) only [z0f]; exact u_4 l g1 g2), ?_, (by omega), Nat.zero_le _, ?_, ?_, ?_, ?_, ?_, ?_, ?_, ?_, rfl⟩ <;> simp only [w_len, w_7, w_9, w_10, w_14, w_83, w_84, w_uN, w_uS, LB, simprocAttr])
 ·have hue : u = B.length := by omega
  simp only [hu, w_len, w_85, w_84, ↓LA, LB, simprocAttr]
  rw [hue] at u_2
  refine hQ _ _ gs (by simp only [w_len, LB, simprocAttr]) (by intro l g1 g2; simp (disch := omega) only [z0f]; exact u_4 l g1 g2) u_1 w_uc0 (u_2.nextc hi (by unfold z6w; rw [if_pos hfit, hB])) u_3 (by show nx ≤ nxu + _; omega)
end Go.Lift.K
namespace Go.Lift.K
open Go Go.Lift Classical
set_option maxRecDepth 100000
theorem zuu {r : RulesT} {L : List GoalT} (h0 : 0 < L.length) : FA r L 0 0 0 [] ((List.replicate L.length false).set 0 true) := by
 refine ⟨by simp, ?_, fun q _ h => by omega, fun _ p hp => by simp [z25] at hp, fun x hx => by simp at hx⟩
 simp only [List.getD_eq_getElem?_getD]
 rw [List.getElem?_set_self (by simpa using h0)]
 rfl
set_option maxHeartbeats 4000000 in
theorem zu7 {r : RulesT} (hr : r.ok) {g0 : GoalT} (hrg : Rg r g0) {L : List GoalT} (hG : Goals r g0 L) {a b : V} {k5 k6 nB kf kx i nx lw : Nat} {s : List (Nat × Obj)} {fs : List Bool} {E : List V} {Q : Ex → List V → St → Prop}
  (h5 : k5 < nB) (hf : nB ≤ kf ∧ kf < nx ∧ nB ≤ kx ∧ kx < nx ∧ kx ≠ kf) (hi : i < L.length) (hLw : Lw r a b k5 k6 nB s) (hfs : sget s kf = some (.cells (bcs fs))) (hx : sget s kx = some (.cells [.d (.str L[i].rel), .d (.sl (L[i].args.map TreeT.d))])) (hFA : FA r L i 0 0 [] fs)
  (w_len : E.length = 119) (w_5 : E.getD 5 .undef = .ptr k5 0) (w_7 : E.getD 7 .undef = .d (.sl (L.map GoalT.d))) (w_9 : E.getD 9 .undef = .arr kf 1 false 0 L.length) (w_10 : E.getD 10 .undef = .d (.int .i64 (i : Nat))) (w_11 : E.getD 11 .undef = .ptr kx 0) (w_70 : E.getD 70 .undef = .d (.int .i64 r.clauses.length)) (w_71 : E.getD 71 .undef = .d (.int .i64 0))
  (hQ : ∀ e st fs', e.length = 119 → (∀ l, (l < 12 ∨ 18 ≤ l) → l < 71 → e.getD l .undef = E.getD l .undef) → Lw r a b k5 k6 nB st.s → sget st.s kf = some (.cells (bcs fs')) → FA r L i r.clauses.length 0 [] fs' → nx ≤ st.next → Q .nrm e st) :
  PC (z0i (z06 G) z0h none (.block 2 (.loop T1.q3_72)) E { s := s, next := nx, low := lw }) Q .mk := by
 have hLr := hG.rg hrg
 have hgi := hLr _ (List.getElem_mem hi)
 have hcl24 := (z64 (z1g hrg.1).1).1
 obtain ⟨R, hR⟩ : ∃ R : IC, R = .block 4 (.loop T1.q3_86) := ⟨_, rfl⟩
 have hx0 : ∀ a b : V, [a, b][0]? = some a := fun _ _ => rfl
 have hx1 : ∀ a b : V, [a, b][1]? = some b := fun _ _ => rfl
 have w_fs := hfs
 have w_x := hx
 unfold T1.q3_72
 rw [← hR]
 simp only [↓LA, simprocAttr]
 refine z0e (fun e0 s0 m env st => ∃ (c nxc lwc : Nat) (sc : List (Nat × Obj)) (gs : List Bool), m = r.clauses.length - c ∧ (c ≤ r.clauses.length) ∧ (Lw r a b k5 k6 nB sc) ∧ (FA r L i c 0 [] gs) ∧ ((∀ l, (l < 12 ∨ 18 ≤ l) → l < 71 → env.getD l .undef = E.getD l .undef)) ∧ sget sc (kf) = some (.cells (bcs gs)) ∧ sget sc (kx) = some (.cells [.d (.str L[i].rel), .d (.sl (L[i].args.map TreeT.d))]) ∧ nx ≤ nxc ∧ 0 ≤ lwc ∧ env.length = 119 ∧ env.getD 71 .undef = .d (.int .i64 c) ∧ env.getD 5 .undef = .ptr k5 0 ∧ env.getD 7 .undef = .d (.sl (L.map GoalT.d)) ∧ env.getD 9 .undef = .arr kf 1 false 0 L.length ∧ env.getD 10 .undef = .d (.int .i64 (i : Nat)) ∧ env.getD 11 .undef = .ptr kx 0 ∧ env.getD 70 .undef = .d (.int .i64 r.clauses.length) ∧ st = { s := sc, next := nxc, low := lwc }) ?_ (r.clauses.length) (by refine ⟨0, _, _, _, fs, rfl, by omega, hLw, hFA, (fun l _ _ => rfl), ?_, ?_, (by omega), Nat.zero_le _, ?_, ?_, ?_, ?_, ?_, ?_, ?_, ?_, rfl⟩ <;> simp only [w_len, w_5, w_7, w_9, w_10, w_11, w_70, w_71, w_fs, w_x, LB, simprocAttr])
 rintro m env st ⟨c, nxc, lwc, sc, gs, hm, c_0, c_1, c_2, c_3, w_cc0, w_cc1, w_cb, w_clo, w_len, w_71, w_5, w_7, w_9, w_10, w_11, w_70, rfl⟩
 have w_cN := aI (cf1 (x := nxc) (a := kf) (by omega)) (cf1 (x := nxc) (a := kx) (by omega))
 have w_cS := aI (cf2 (x := nxc) (by omega) w_cc0) (cf2 (x := nxc) (by omega) w_cc1)
 have w_c5 := c_1.c5
 by_cases hc : c < r.clauses.length
 ·simp only [hc, w_len, w_71, w_5, w_11, w_70, w_cc1, w_c5, ↓LA, LB, simprocAttr]
  have hbz := z87 (nx := nxc + 12) (lw := lwc) T1.g10 rfl rfl (vs := [mkAgg [a, b], .d (.int .i64 (c : Nat)), .d L[i].d]) (ds := [r.d, .int .i64 (c : Nat), L[i].d]) (rs := blD r c L[i]) (S := Sk2 k5 k6 nB) (s := sc) ⟨c_1.az, AZ.ofD, AZ.ofD, trivial⟩ (zqn hr hgi hc _)
  refine z0s hbz fun v st hR' => ?_
  obtain ⟨rfl, hn1, hz⟩ := hR'
  obtain ⟨s1, n1, lw1⟩ := st
  have hn1 : n1 = nxc + 12 := hn1
  subst hn1
  have hz : Fz1 (Sk2 k5 k6 nB) sc s1 := hz
  have hL1 := c_1.step hz
  have w_y0 : sget s1 kf = some (.cells (bcs gs)) := (hz.2 kf (fun h => by have := h.1; omega)).trans w_cc0
  have w_y1 : sget s1 kx = some (.cells [.d (.str L[i].rel), .d (.sl (L[i].args.map TreeT.d))]) := (hz.2 kx (fun h => by have := h.1; omega)).trans w_cc1
  by_cases hf' : fitS (clA r c) L[i]
  ·have hbd : blD r c L[i] = [.sl ((z2s (clA r c) L[i]).map GoalT.d), .int .i64 0] := if_pos hf'
   rw [hbd]
   simp only [List.map_cons, List.map_nil, tupV, hx0, hx1, List.length_map, w_len, ↓LA, LB, simprocAttr]
   rw [hR]
   refine zu6 hr hrg hG h5 ⟨hf.1, by omega⟩ hi hc hf' hL1 w_y0 c_2 (by simp only [w_len, LB, simprocAttr]) (by simp only [w_7, LB, simprocAttr]) (by simp only [w_9, LB, simprocAttr]) (by simp only [w_10, LB, simprocAttr]) (by simp only [w_len, LB, simprocAttr]) (by simp only [w_len, LB, simprocAttr]) (by simp only [w_len, LB, simprocAttr]) (by simp only [w_len, LB, simprocAttr]) ?_
   intro e st fs' w_len hE hL2 hf2 hFA2 hfr hn2
   obtain ⟨s2, n2, lw2⟩ := st
   have hn2 : nxc ≤ n2 := Nat.le_trans (by omega) hn2
   have w_71 : e.getD 71 .undef = .d (.int .i64 (c : Nat)) := (hE 71 (.inr (by omega)) (by omega)).trans (by simp only [w_71, LB, simprocAttr])
   have w_5 : e.getD 5 .undef = .ptr k5 0 := (hE 5 (.inl (by omega)) (by omega)).trans (by simp only [w_5, LB, simprocAttr])
   have w_7 : e.getD 7 .undef = .d (.sl (L.map GoalT.d)) := (hE 7 (.inl (by omega)) (by omega)).trans (by simp only [w_7, LB, simprocAttr])
   have w_9 : e.getD 9 .undef = .arr kf 1 false 0 L.length := (hE 9 (.inl (by omega)) (by omega)).trans (by simp only [w_9, LB, simprocAttr])
   have w_10 : e.getD 10 .undef = .d (.int .i64 (i : Nat)) := (hE 10 (.inl (by omega)) (by omega)).trans (by simp only [w_10, LB, simprocAttr])
   have w_11 : e.getD 11 .undef = .ptr kx 0 := (hE 11 (.inl (by omega)) (by omega)).trans (by simp only [w_11, LB, simprocAttr])
   have w_70 : e.getD 70 .undef = .d (.int .i64 r.clauses.length) := (hE 70 (.inr (by omega)) (by omega)).trans (by simp only [w_70, LB, simprocAttr])
   have w_z0 : sget s2 kf = some (.cells (bcs fs')) := hf2
   have w_z1 : sget s2 kx = some (.cells [.d (.str L[i].rel), .d (.sl (L[i].args.map TreeT.d))]) := (hfr kx (by show kx < nxc + _; omega) hf.2.2.2.2).trans w_y1
   simp only [z08 hc (by omega), w_len, w_71, ↓LA, LB, simprocAttr]
   exact z0c (by refine ⟨_, by omega, c + 1, _, _, _, fs', rfl, by omega, hL2, hFA2, (by intro l g1 g2; simp (disch := omega) only [z0f]; rw [hE l (by omega) (by omega)]; simp (disch := omega) only [z0f]; exact c_3 l g1 g2), ?_, ?_, (by omega), Nat.zero_le _, ?_, ?_, ?_, ?_, ?_, ?_, ?_, ?_, rfl⟩ <;> simp only [w_len, w_5, w_7, w_9, w_10, w_11, w_70, w_z0, w_z1, LB, simprocAttr])
  ·have hbd : blD r c L[i] = [.sl [], .int .i64 7] := if_neg hf'
   rw [hbd]
   simp only [List.map_cons, List.map_nil, tupV, hx0, hx1, z08 hc (by omega), w_len, w_71, ↓LA, LB, simprocAttr]
   exact z0c (by refine ⟨_, by omega, c + 1, _, _, _, gs, rfl, by omega, hL1, c_2.skipc hi (by unfold z6w; rw [if_neg hf']), (by intro l g1 g2; simp (disch := omega) only [z0f]; exact c_3 l g1 g2), ?_, ?_, (by omega), Nat.zero_le _, ?_, ?_, ?_, ?_, ?_, ?_, ?_, ?_, rfl⟩ <;> simp only [w_len, w_5, w_7, w_9, w_10, w_11, w_70, w_y0, w_y1, LB, simprocAttr])
 ·have hce : c = r.clauses.length := by omega
  simp only [hc, w_len, w_71, w_70, ↓LA, LB, simprocAttr]
  rw [hce] at c_2
  exact hQ _ _ gs (by simp only [w_len, LB, simprocAttr]) (by intro l g1 g2; simp (disch := omega) only [z0f]; exact c_3 l g1 g2) c_1 w_cc0 c_2 (by show nx ≤ nxc + _; omega)
theorem zmb {l : List Bool} (hl : l.length ≤ 100000) (hf : false ∉ l) (st : St) : z06 G (.fn 27 [] []) [.d (.sl (l.map D.bool)), .d (.bool false)] st = some (.d (.int .i64 (-1)), st) := by
 refine z15 (ds := [.sl (l.map D.bool), .bool false]) (rs := [.int .i64 (-1)]) T1.g27 rfl rfl (fun e w_len harg => ?_) st
 have w_len : e.length = 19 := w_len
 have w_0 := harg 0 (by simp)
 have w_1 := harg 1 (by simp)
 clear harg
 simp only [List.map_cons, List.map_nil, List.getD_cons_zero, List.getD_cons_succ] at w_0 w_1
 simp only [T1.i27, List.length_map, w_len, w_0, ↓LA, LB, simprocAttr]
 refine z0e (fun e0 s0 m env st => ∃ (i nxi : Nat), m = l.length - i ∧ (i ≤ l.length) ∧ env.length = 19 ∧ env.getD 8 .undef = .d (.int .i64 i) ∧ env.getD 0 .undef = .d (.sl (l.map D.bool)) ∧ env.getD 1 .undef = .d (.bool false) ∧ env.getD 6 .undef = .d (.sl (l.map D.bool)) ∧ env.getD 7 .undef = .d (.int .i64 l.length) ∧ st = { s := s0.s, next := nxi, low := s0.low }) ?_ (l.length) (by refine ⟨0, _, rfl, by omega, ?_, ?_, ?_, ?_, ?_, ?_, rfl⟩ <;> simp only [w_len, w_0, w_1, LB, simprocAttr])
 rintro m env st ⟨i, nxi, hm, i_0, w_len, w_8, w_0, w_1, w_6, w_7, rfl⟩
 by_cases hi : i < l.length
 ·have hia : z0a 1 (.d (.sl (l.map D.bool))) (i : Int) = some (.dptr [.bool l[i]]) := z24 hi rfl
  have ht : l[i] = true := by
   cases h : l[i] with
   | true => rfl
   | false => exact absurd (h ▸ List.getElem_mem hi) hf
  rw [ht] at hia
  have he : ((false == true) != false) = false := rfl
  simp only [hi, hia, z08 hi (by omega), w_len, w_8, w_0, w_1, w_7, ↓LA, LB, simprocAttr]
  exact z0c (by refine ⟨_, by omega, i + 1, _, rfl, by omega, ?_, ?_, ?_, ?_, ?_, ?_, rfl⟩ <;> simp only [w_len, w_0, w_1, w_6, w_7, LB, simprocAttr])
 ·simp only [hi, w_len, w_8, w_7, ↓LA, LB, simprocAttr]
  exact rq1 (by rfl)
theorem ze3 {l : List Bool} (hl : l.length ≤ 100000) (hf : false ∉ l) (st : St) : z06 G (.fn 11 [] []) [.d (.sl (l.map D.bool)), .d (.bool false)] st = some (.d (.bool false), st) := by
 have hI := fun st => zmb hl hf st
 refine z15 (ds := [.sl (l.map D.bool), .bool false]) (rs := [.bool false]) T1.g11 rfl rfl (fun e w_len harg => ?_) st
 have w_len : e.length = 9 := w_len
 have w_0 := harg 0 (by simp)
 have w_1 := harg 1 (by simp)
 clear harg
 simp only [List.map_cons, List.map_nil, List.getD_cons_zero, List.getD_cons_succ] at w_0 w_1
 have hlt : ((0 : Int) ≤ -1) = False := by simp
 simp only [T1.i11, hI, hlt, w_len, w_0, w_1, ↓LA, LB, simprocAttr]
 exact rq1 (by rfl)
end Go.Lift.K
namespace Go.Lift.K
open Go Go.Lift Classical
set_option maxRecDepth 100000
theorem y08 {n : Nat} : scs (List.replicate n (D.bool false)) = bcs (List.replicate n false) := by unfold bcs; rw [List.map_replicate]
set_option maxHeartbeats 4000000 in
theorem zu8 {r : RulesT} (hr : r.ok) {g0 : GoalT} (hrg : Rg r g0) {L : List GoalT} (hG : Goals r g0 L) {a b : V} {k5 k6 nB nx lw : Nat} {s : List (Nat × Obj)} {E : List V}
  (h5 : k5 < nB) (hnB : nB ≤ nx) (hLw : Lw r a b k5 k6 nB s) (hbl : opLen false b = some r.clauses.length)
  (w_len : E.length = 119) (w_5 : E.getD 5 .undef = .ptr k5 0) (w_7 : E.getD 7 .undef = .d (.sl (L.map GoalT.d))) :
  PC (z0i (z06 G) z0h none T1.q3_51 E { s := s, next := nx, low := lw }) (RP [.t 4] [.bool true]) .mk := by
 have hLr := hG.rg hrg
 have hm300 := hG.most
 obtain ⟨hL0, hLf⟩ := hG.first
 have hLok : ∀ x ∈ L, x.ok := fun x hx => (hLr x hx).ok hr
 obtain ⟨R, hR⟩ : ∃ R : IC, R = .block 2 (.loop T1.q3_72) := ⟨_, rfl⟩
 obtain ⟨R', hR'⟩ : ∃ R : IC, R = T1.q3_113 := ⟨_, rfl⟩
 have hmk : ∀ key st, z61 key 1 false 1 [.d (.bool false)] (.d (.int .i64 (L.length : Nat))) (.d (.int .i64 (L.length : Nat))) st = some (.arr key 1 false 0 L.length, st.ins key (.cells (bcs (List.replicate L.length false)))) := fun key st => by rw [← y08]; exact zey rfl (by omega) (by omega)
 have hi0 : ∀ k, z0a 1 (.arr k 1 false 0 L.length) 0 = some (.ptr k 0) := fun k => z5n (k := k) (ag := false) hL0
 obtain ⟨t1, t2, t3⟩ := zxm (fs := List.replicate L.length false) (n := 0) (by simpa using hL0)
 have t4 : V.d (.bool true) :: (bcs (List.replicate L.length false)).drop 1 = bcs ((List.replicate L.length false).set 0 true) := t3 true
 have w_c5 := hLw.c5
 unfold T1.q3_51 T1.q3_59
 rw [← hR, ← hR']
 simp only [List.length_map, hmk, hi0, t1, w_len, w_7, ↓LA, LB, simprocAttr]
 rw [t4]
 refine z0e (fun e0 s0 m env st => ∃ (i nxi lwi : Nat) (si : List (Nat × Obj)) (gs : List Bool), m = L.length - i ∧ (i ≤ L.length) ∧ (Lw r a b k5 k6 nB si) ∧ (FA r L i 0 0 [] gs) ∧ sget si (nx + 2) = some (.cells (bcs gs)) ∧ nx + 3 ≤ nxi ∧ 0 ≤ lwi ∧ env.length = 119 ∧ env.getD 58 .undef = .d (.int .i64 i) ∧ env.getD 5 .undef = .ptr k5 0 ∧ env.getD 7 .undef = .d (.sl (L.map GoalT.d)) ∧ env.getD 9 .undef = .arr (nx + 2) 1 false 0 L.length ∧ env.getD 56 .undef = .d (.sl (L.map GoalT.d)) ∧ env.getD 57 .undef = .d (.int .i64 L.length) ∧ st = { s := si, next := nxi, low := lwi }) ?_ (L.length) (by refine ⟨0, _, _, _, (List.replicate L.length false).set 0 true, rfl, by omega, (hLw.frame h5 fun q hq => z00 (by omega)), (zuu hL0), ?_, (by omega), Nat.zero_le _, ?_, ?_, ?_, ?_, ?_, ?_, ?_, rfl⟩ <;> simp only [w_len, w_5, w_7, LB, simprocAttr])
 rintro m env st ⟨i, nxi, lwi, si, gs, hm, i_0, i_1, i_2, w_ic0, w_ib, w_ilo, w_len, w_58, w_5, w_7, w_9, w_56, w_57, rfl⟩
 have w_iN := cf1 (x := nxi) (a := nx + 2) (by omega)
 have w_iS := cf2 (x := nxi) (by omega) w_ic0
 have w_iZ := zf (x := nxi) (b := nx) (n := 3) (by omega) (by omega)
 have w_c5 := i_1.c5
 by_cases hi : i < L.length
 ·have hP := fun st => zj4 (g := L[i]) (hLok _ (List.getElem_mem hi)) hLok (by unfold LOk; omega) st
  rw [zj5 hLr (List.getElem_mem hi), zdm hG.nodup hi] at hP
  simp only [GoalT.d] at hP
  have w_kz : (nxi = k5) = False ∧ (∀ q, (nxi + q = k5) = False) := ⟨by simp; omega, fun q => by simp; omega⟩
  simp only [hi, z3r hi, hP, hbl, w_len, w_58, w_5, w_7, w_56, w_57, w_c5, w_kz, ↓LA, LB, simprocAttr]
  rw [hR]
  refine zu7 (nB := nB) (k5 := k5) (k6 := k6) (a := a) (b := b) (kf := nx + 2) (kx := nxi + 4) (fs := gs) hr hrg hG h5 ⟨by omega, by omega, by omega, by omega, by omega⟩ hi (i_1.frame h5 fun q hq => z00 (by omega)) ((z00 (by omega)).trans w_ic0) z02 i_2 (by simp only [w_len, LB, simprocAttr]) (by simp only [w_5, LB, simprocAttr]) (by simp only [w_7, LB, simprocAttr]) (by simp only [w_9, LB, simprocAttr]) (by simp only [w_len, LB, simprocAttr]) (by simp only [w_len, LB, simprocAttr]) (by simp only [w_len, LB, simprocAttr]) (by simp only [w_len, LB, simprocAttr]) ?_
  intro e st fs' w_len hE hL2 hf2 hFA2 hn2
  obtain ⟨s2, n2, lw2⟩ := st
  have hn2 : nxi ≤ n2 := Nat.le_trans (Nat.le_add_right _ _) hn2
  have w_58 : e.getD 58 .undef = .d (.int .i64 (i : Nat)) := (hE 58 (.inr (by omega)) (by omega)).trans (by simp only [w_58, LB, simprocAttr])
  have w_5 : e.getD 5 .undef = .ptr k5 0 := (hE 5 (.inl (by omega)) (by omega)).trans (by simp only [w_5, LB, simprocAttr])
  have w_7 : e.getD 7 .undef = .d (.sl (L.map GoalT.d)) := (hE 7 (.inl (by omega)) (by omega)).trans (by simp only [w_7, LB, simprocAttr])
  have w_9 : e.getD 9 .undef = .arr (nx + 2) 1 false 0 L.length := (hE 9 (.inl (by omega)) (by omega)).trans (by simp only [w_9, LB, simprocAttr])
  have w_56 : e.getD 56 .undef = .d (.sl (L.map GoalT.d)) := (hE 56 (.inr (by omega)) (by omega)).trans (by simp only [w_56, LB, simprocAttr])
  have w_57 : e.getD 57 .undef = .d (.int .i64 L.length) := (hE 57 (.inr (by omega)) (by omega)).trans (by simp only [w_57, LB, simprocAttr])
  have w_z0 : sget s2 (nx + 2) = some (.cells (bcs fs')) := hf2
  simp only [z08 hi (by omega), w_len, w_58, ↓LA, LB, simprocAttr]
  exact z0c (by refine ⟨_, by omega, i + 1, _, _, _, fs', rfl, by omega, hL2, hFA2.nexti hi, ?_, (by omega), Nat.zero_le _, ?_, ?_, ?_, ?_, ?_, ?_, ?_, rfl⟩ <;> simp only [w_len, w_5, w_7, w_9, w_56, w_57, w_z0, LB, simprocAttr])
 ·have hie : i = L.length := by omega
  rw [hie] at i_2
  have hall := FA.all hG i_2
  have hgl : gs.length = L.length := i_2.len
  have hsn : snap si 0 z09 (.arr (nx + 2) 1 false 0 L.length) = some (.sl (gs.map D.bool)) := by
   have := zd0 (s := si) (k := nx + 2) (ds := gs.map D.bool) w_ic0 (by rw [List.all_map]; exact List.all_eq_true.2 fun x _ => rfl)
   rwa [List.length_map, hgl] at this
  have hCo : ∀ nx' lw', z06 G (.fn 11 [] []) [.arr (nx + 2) 1 false 0 L.length, .d (.bool false)] { s := si, next := nx', low := lw' } = some (.d (.bool false), { s := si, next := nx', low := lw' }) := fun nx' lw' =>
   z4o (rs := [.bool false]) T1.g11 rfl rfl (ds := [.sl (gs.map D.bool), .bool false]) (by simp only [z0p, hsn]; rfl) rfl (ze3 (by omega) hall _)
  have hAw := fun st => zvo st
  simp only [hi, w_len, w_58, w_57, ↓LA, LB, simprocAttr]
  rw [hR']
  simp only [hCo, hAw, w_len, w_9, ↓LA, LB, simprocAttr]
  exact rq1 (by rfl)
end Go.Lift.K
namespace Go.Lift.K
open Go Go.Lift Classical
set_option maxRecDepth 100000
set_option maxHeartbeats 4000000 in
theorem zd5 {bs cs : List Int} (hb : LOk bs) (hc : LOk cs) (st : St) : z06 G (.fn 3 [] []) [.d (.sl (bs.map (D.int .u8))), .d (.sl (cs.map (D.int .u8)))] st = some (.d (.bool true), st) := by
 obtain ⟨R, hR⟩ : ∃ R : IC, R = T1.q3_26 := ⟨_, rfl⟩
 refine z15 (ds := [.sl (bs.map (D.int .u8)), .sl (cs.map (D.int .u8))]) (rs := [.bool true]) T1.g3 rfl rfl (fun e w_len harg => ?_) st
 have w_len : e.length = 119 := w_len
 have w_0 := harg 0 (by simp)
 have w_1 := harg 1 (by simp)
 clear harg
 simp only [List.map_cons, List.map_nil, List.getD_cons_zero, List.getD_cons_succ] at w_0 w_1
 unfold T1.i3
 rw [← hR]
 simp only [w_len, w_0, ↓LA, LB, simprocAttr]
 refine z0s (z8b hb) fun v st hR1 => ?_
 obtain ⟨k1, rfl, ha1, ha2, _, hS1, _⟩ := hR1
 obtain ⟨s1, n1, lw1⟩ := st
 have ha2 : k1 < n1 := ha2
 simp only [w_len, ↓LA, LB, simprocAttr]
 refine z0s (zyv hb (zpj hb) (c := 0) (by omega) ha2 hS1) fun v st hR1 => ?_
 obtain ⟨hn2, hf2, hS2, _, r, a, b, rfl, hrm, hga, hgb⟩ := hR1
 obtain ⟨s2, n2, lw2⟩ := st
 have hn2 : n1 ≤ n2 := hn2
 have hga : GP s2 false (Iv n1 n2) 0 3 true a (r.rels.map RelT.d) := hga
 have hgb : GP s2 false (Iv n1 n2) 2 3 true b (r.clauses.map ClauseT.d) := hgb
 have w_a := hga.cell
 have w_b := hgb.cell
 have w_ae := hga.beq
 have w_be := hgb.beq
 have w_n0 : (∀ q, (n2 + q = 4) = False) ∧ (n2 = 4) = False := ⟨fun q => by simp; omega, by simp; omega⟩
 simp only [w_len, w_1, w_a, w_b, ↓LA, LB, simprocAttr]
 refine z0s (z8b hc) fun v st hR1 => ?_
 obtain ⟨k2, rfl, hb1, hb2, hf3, hS3, _⟩ := hR1
 obtain ⟨s3, n3, lw3⟩ := st
 have hb2 : k2 < n3 := hb2
 have hf3 : ∀ q, q < n2 + 6 → sget s3 q = sget ((4, Obj.cells [a, b]) :: s2) q := hf3
 have w_34 : sget s3 4 = some (.cells [a, b]) := (hf3 4 (by omega)).trans z02
 have hf3' : ∀ q, q < n2 → q ≠ 4 → sget s3 q = sget s2 q := fun q g1 g2 => (hf3 q (by omega)).trans (z00 (by omega))
 have hga3 : GP s3 false (Iv n1 n2) 0 3 true a (r.rels.map RelT.d) := hga.frame fun q hq => hf3' q hq.2 (by have := hq.1; omega)
 have hgb3 : GP s3 false (Iv n1 n2) 2 3 true b (r.clauses.map ClauseT.d) := hgb.frame fun q hq => hf3' q hq.2 (by have := hq.1; omega)
 simp only [w_len, w_ae, w_be, w_34, ↓LA, LB, simprocAttr]
 have hr1 := hrm.one
 have hr3 := hrm.most
 refine z0s (zvp hc (most := 5) (by omega) (by omega) (c := 0) (by omega) (rels := r.rels) (by omega) (by omega) (fun x hx => by obtain ⟨i, hi, rfl⟩ := List.mem_iff_getElem.1 hx; have := (hrm.rel i hi).2.1; omega) (k := k2) (S := Iv n1 n2) hb2 hS3 (fun q hq => ⟨by have := hq.2; omega, by have := hq.2; omega⟩) hga3 w_b.1 w_b.2 w_be) fun v st hR1 => ?_
 obtain ⟨hn4, hf4, _, _, x, ts, gt, hxm, rfl, hgt, htl, htk⟩ := hR1
 obtain ⟨s4, n4, lw4⟩ := st
 have hn4 : n3 ≤ n4 := hn4
 have hf4 : ∀ q, q < n3 → q ≠ k2 → sget s4 q = sget s3 q := hf4
 have hgt : GP s4 false (Iv n3 n4) 2 2 true gt (ts.map TreeT.d) := hgt
 have w_t := hgt.cell
 have w_44 : sget s4 4 = some (.cells [a, b]) := (hf4 4 (by omega) (by omega)).trans w_34
 simp only [w_len, w_t, ↓LA, LB, simprocAttr]
 obtain ⟨g, hgd⟩ : ∃ g : GoalT, g = ⟨x.name, ts⟩ := ⟨_, rfl⟩
 obtain ⟨xi, hxi, hxe⟩ := List.mem_iff_getElem.1 hxm
 have hxr := hrm.rel xi hxi
 rw [hxe] at hxr
 have hrk := zo3 hrm
 have hgk : g.ok := by
  rw [hgd]
  exact ⟨(hrk.1.2 x hxm).1, by unfold LOk; show ts.length ≤ _; have := hxr.2.1; omega, fun t ht => (zw2 (by omega) (htk t ht)).1⟩
 have hsp : z0w r g = 0 := by
  unfold z0w
  rw [if_neg (by rw [zez hrm]; simp), hgd]
  show (match r.rels.find? (isR x.name) with | none => 1 | some y => if (ts.length : Int) ≠ y.arity then 2 else z0o z0b ts) = 0
  rw [za1 hrm hxm]
  simp only
  rw [if_neg (by omega)]
  exact z1a fun t ht => (zw2 (by omega) (htk t ht)).2.spec
 have hng : ¬ zvz r (z1i g) := zp5 hrm hgk hsp (fun t ht => by rw [hgd] at ht; exact (htk t ht).2.1)
 obtain ⟨s5, hs5⟩ : ∃ s5, s5 = (n2 + 4, Obj.cells [V.d (D.str x.name), gt]) :: s4 := ⟨_, rfl⟩
 have hf5 : ∀ q, q ≠ n2 + 4 → sget s5 q = sget s4 q := fun q hq => by rw [hs5]; exact z00 (fun e => hq e.symm)
 have hfa : ∀ q, n1 ≤ q → q < n2 → sget s5 q = sget s3 q := fun q g1 g2 => (hf5 q (by omega)).trans (hf4 q (by omega) (by omega))
 have hLw : Lw r a b 4 (n2 + 4) n4 s5 := ⟨(hf5 4 (by omega)).trans w_44,
  CZ.mono (by omega) (fun q hq => ⟨by have := hq.2; omega, by have := hq.1; omega, by have := hq.2; omega⟩) (zv5 ((hga3.frame fun q hq => hfa q hq.1 hq.2).cv (by omega) (z0j fun a => zhw))),
  CZ.mono (by omega) (fun q hq => ⟨by have := hq.2; omega, by have := hq.1; omega, by have := hq.2; omega⟩) (zv5 ((hgb3.frame fun q hq => hfa q hq.1 hq.2).cv (by omega) (z0j fun a => zcf)))⟩
 have hAg : ∀ s', Pz s5 s' → AZ s' (Sk2 4 (n2 + 4) n4) (mkAgg [.d (.str x.name), gt]) g.d := fun s' hp => AZ.step (by
  rw [hgd]
  refine .inr ⟨[.d (.str x.name), gt], [.str x.name, .sl (ts.map TreeT.d)], rfl, rfl, ⟨CZ.ofD, ?_, trivial⟩, rfl⟩
  exact CZ.mono (by omega) (fun q hq => ⟨hq.2, by have := hq.1; omega, by have := hq.1; omega⟩) (zv5 ((hgt.frame fun q hq => hf5 q (by have := hq.1; omega)).cv (by omega) (z0j fun a => z2n)))) hp
 have w_56 : sget s5 (n2 + 4) = some (.cells [.d (.str x.name), gt]) := by rw [hs5]; exact z02
 have w_55 := hLw.c5
 have hbl : opLen false b = some r.clauses.length := by rw [hgb.len, List.length_map]
 rw [← hs5, hR]
 obtain ⟨R', hR'⟩ : ∃ R : IC, R = T1.q3_51 := ⟨_, rfl⟩
 unfold T1.q3_26
 rw [← hR']
 simp only [w_len, w_55, w_56, ↓LA, LB, simprocAttr]
 obtain ⟨rs, hP, hcall⟩ := zo6 hrk hgk
 have hx0 : ∀ a b : V, [a, b][0]? = some a := fun _ _ => rfl
 have hx1 : ∀ a b : V, [a, b][1]? = some b := fun _ _ => rfl
 obtain ⟨L, hG, rfl⟩ : ∃ L, Goals r (z1i g) L ∧ rs = [.sl (L.map GoalT.d), .int .i64 0] := by
  rcases hP with ⟨h1, _⟩ | ⟨_, h1, _⟩ | ⟨_, h1⟩
  ·exact absurd hsp h1
  ·exact absurd h1 hng
  ·exact h1
 have hrg := zd2 hgk hsp
 obtain ⟨hL0, hLf⟩ := hG.first
 have hm300 := hG.most
 refine z0s (z87 (lw := lw4.min (n2 + 4)) (nx := n4 + 8) T1.g7 rfl rfl (vs := [mkAgg [a, b], mkAgg [.d (.str x.name), gt]]) (ds := [r.d, g.d]) (S := Sk2 4 (n2 + 4) n4) (s := s5) ⟨hLw.az, hAg _ Pz.refl, trivial⟩ (hcall _)) fun v st hR1 => ?_
 obtain ⟨rfl, hn6, hz6⟩ := hR1
 obtain ⟨s6, n6, lw6⟩ := st
 have hn6 : n6 = n4 + 8 := hn6
 subst hn6
 have hz6 : Fz1 (Sk2 4 (n2 + 4) n4) s5 s6 := hz6
 have hL6 := hLw.step hz6
 have w_65 := hL6.c5
 have w_66 : sget s6 (n2 + 4) = some (.cells [.d (.str x.name), gt]) := (hz6.2 _ (fun h => h.2.2 rfl)).trans w_56
 have hl0 : ((L.length : Int) = 0) = False := eq_false (by omega)
 have hl3 : ((300 : Int) < (L.length : Nat)) = False := eq_false (by omega)
 have hia0 : z0a 2 (.d (.sl (L.map GoalT.d))) 0 = some (.dptr [.str L[0].rel, .sl (L[0].args.map TreeT.d)]) := z3r hL0
 simp only [List.map_cons, List.map_nil, tupV, hx0, hx1, hl0, hl3, hia0, List.length_map, w_len, w_66, ↓LA, LB, simprocAttr]
 have h0k : L[0].ok := (hG.rg hrg _ (List.getElem_mem hL0)).ok hrk
 have hsame : z9x L[0] g = true := by
  rw [hLf]
  obtain ⟨_, _, _, _, e1⟩ := z1g hrg.1
  obtain ⟨_, _, _, _, e2⟩ := z1g hsp
  simp [z9x, e1, e2, hrg.2.fix]
 refine z0s (z87 (lw := lw6) (nx := n4 + 28) T1.g8 rfl rfl (vs := [.d L[0].d, mkAgg [.d (.str x.name), gt]]) (ds := [L[0].d, g.d]) (rs := [.bool (z9x L[0] g)]) (S := Sk2 4 (n2 + 4) n4) (s := s6) ⟨AZ.ofD, hAg _ hz6.1, trivial⟩ (zj0 h0k hgk _)) fun v st hR1 => ?_
 obtain ⟨rfl, hn7, hz7⟩ := hR1
 obtain ⟨s7, n7, lw7⟩ := st
 have hn7 : n7 = n4 + 28 := hn7
 subst hn7
 have hz7 : Fz1 (Sk2 4 (n2 + 4) n4) s6 s7 := hz7
 rw [hsame]
 simp only [List.map_cons, List.map_nil, tupV, w_len, ↓LA, LB, simprocAttr]
 rw [hR']
 exact zu8 hrk hrg hG (k6 := n2 + 4) (nB := n4) (by omega) (by omega) (hL6.step hz7) hbl (by simp only [w_len, LB, simprocAttr]) (by simp only [w_len, LB, simprocAttr]) (by simp only [w_len, LB, simprocAttr])
end Go.Lift.K
