/- Part C4 of the proof. -/
import Derived.Test.YtgdgkmackccopaaGreatDoorC3
import Derived.Test.YtgdgkmackccopaaGreatDoorB6
import Derived.Test.YtgdgkmackccopaaGreatDoorA7
set_option linter.all false
namespace Go.Lift.K
open Go Go.Lift
set_option maxRecDepth 100000
theorem zdo {s : List (Nat × Obj)} {lv : Bool} {S : Nat → Prop} {n es nx l : Nat} {ag : Bool} {v : V} {ds : List D} (h : GP s lv S n es ag v ds) (h1 : ∀ q, S q → nx ≤ q) (h2 : nx ≤ l) : nx ≤ z8u v l := by
 rcases h with ⟨rfl, _⟩ | ⟨k, cs, rfl, hS, _⟩
 ·exact h2
 ·exact z01 h2 (h1 _ hS)
theorem y0y {s : List (Nat × Obj)} {lv : Bool} {S : Nat → Prop} {v : V} {l : List (List Nat)} (h : GP s lv S 0 1 false v (l.map D.str)) (h0 : 0 < l.length) :
  ∃ k cs, v = .arr k 1 false 0 l.length ∧ S k ∧ sget s k = some (.cells cs) ∧ ∀ j (hj : j < l.length), z0a 1 v (j : Int) = some (.ptr k j) ∧
   (j + 1 ≤ cs.length) = True ∧ (cs.drop j).take 1 = [.d (.str l[j])] := by
 rcases h with ⟨_, e⟩ | ⟨k, cs, rfl, h1, h2, h3⟩
 ·cases l with
  | nil => simp at h0
  | cons x l => simp at e
 ·have e := zv8 h3
  subst e
  have hcs : ((l.map D.str).flatMap cellsD).map V.d = l.map fun x => V.d (.str x) := by
   clear h3 h2 h0
   induction l with
   | nil => rfl
   | cons x l ih => simp only [List.map_cons, List.flatMap_cons, List.map_append, ih]; rfl
  rw [hcs] at h2
  refine ⟨k, _, by simp, h1, h2, fun j hj => ⟨?_, eq_true (by simp; omega), ?_⟩⟩
  ·rw [List.length_map]
   simp only [z0a]
   rw [if_pos ⟨by omega, by omega, trivial⟩]
   simp
  ·rw [List.drop_eq_getElem_cons (by simpa using hj)]
   simp
theorem z0f {e : List V} {k j : Nat} {v u : V} (h : k ≠ j) : (e.set k v).getD j u = e.getD j u := z6v (eq_false h)
theorem zco {b : Nat} : binV .add (.d (.str [118])) (.d (.str [b])) = some (.d (.str [118, b])) := rfl
structure HeadS (k pc : Nat) (bs : List Int) (sO : List (Nat × Obj)) (c : Nat) (rel : List Nat) (xw xv : V) (ps : List PatT) (vs : List (List Nat)) (s : List (Nat × Obj)) (nx lw : Nat) : Prop where
 sk : Sk s k bs c
 pcl : sget s pc = some (.cells [.d (.str rel), xw, .nilS])
 w : GP s false (fun q => pc + 1 ≤ q ∧ q < nx ∧ away xv q) 1 2 true xw (ps.map PatT.d)
 v : GP s false (fun q => pc + 1 ≤ q ∧ q < nx ∧ ¬ away xv q) 0 1 false xv (vs.map D.str)
 fr : ∀ q, q < pc → q ≠ k → sget s q = sget sO q
 lw : k ≤ lw
 nx : pc < nx
structure VarS (k pc pp : Nat) (bs : List Int) (sO : List (Nat × Obj)) (c : Nat) (rel nm : List Nat) (xw xu xv : V) (ps : List PatT) (us vs : List (List Nat)) (s : List (Nat × Obj)) (nx lw : Nat) : Prop where
 sk : Sk s k bs c
 pcl : sget s pc = some (.cells [.d (.str rel), xw, .nilS])
 ppl : sget s pp = some (.cells [.d (.str nm), xu])
 u : GP s false (fun q => pp + 1 ≤ q ∧ q < nx ∧ away xv q) 0 1 false xu (us.map D.str)
 v : GP s false (fun q => pc + 1 ≤ q ∧ q < nx ∧ q ≠ pp ∧ ¬ away xv q) 0 1 false xv (vs.map D.str)
 w : GP s false (fun q => pc + 1 ≤ q ∧ q < pp ∧ away xv q) 1 2 true xw (ps.map PatT.d)
 fr : ∀ q, q < pc → q ≠ k → sget s q = sget sO q
 lw : k ≤ lw
 nx : pp < nx
theorem z7o : ∀ a : List Nat, Elt 1 false (D.str a) := fun a => zrd
set_option maxHeartbeats 2000000 in
theorem zij {k pc pp c nx lw : Nat} {bs : List Int} {s sO : List (Nat × Obj)} {E : List V} {rel nm x : List Nat} {xw xu xv : V} {ps : List PatT} {us vs : List (List Nat)} {Q : Ex → List V → St → Prop} (hkp : k < pc) (hpp : pc < pp) (hul : us.length ≤ 10) (hvl : vs.length ≤ 10)
  (w_len : E.length = 171) (w_12 : E.getD 12 .undef = xv) (w_14 : E.getD 14 .undef = .ptr pp 0) (w_15 : E.getD 15 .undef = .d (.str x)) (h : VarS k pc pp bs sO c rel nm xw xu xv ps us vs s nx lw)
  (hQ : ∀ e st xu' xv', e.length = 171 → (∀ l, l ≠ 12 → l < 96 → e.getD l .undef = E.getD l .undef) → e.getD 12 .undef = xv' → VarS k pc pp bs sO c rel nm xw xu' xv' ps (us ++ [x]) (vs ++ [x]) st.s st.next st.low → nx ≤ st.next → Q .nrm e st) :
  PC (z0i (z06 G) z0h none T1.q4_96 E { s := s, next := nx, low := lw }) Q .mk := by
 obtain ⟨hsk, w_pc, w_pp, hu, hv, hw, hfr, hlw, hnx⟩ := h
 have w_z := (zf (x := nx) (b := pp) (n := 1) (by omega) (by omega))
 have w_z2 := (zf (x := nx) (b := pc) (n := 1) (by omega) (by omega))
 have w_pN := aI (cf1 (x := nx) (a := pc) (by omega)) (cf1 (x := nx) (a := pp) (by omega))
 have w_pS := aI (cf2 (x := nx) (by omega) w_pc) (cf2 (x := nx) (by omega) w_pp)
 have w_huV := aI (hu.away (j := k) (by omega)) (aI (hu.away (j := pc) (by omega)) (aI (hu.away (j := pp) (by omega)) (aI (hu.away (j := nx + 3) (by omega)) (hu.away (j := nx + 7) (by omega)))))
 have w_huc := hu.cell.1
 have w_hud := hu.cell.2
 have w_hue := hu.beq
 have w_hvV := aI (hv.away (j := k) (by omega)) (aI (hv.away (j := pc) (by omega)) (aI (hv.away (j := pp) (by omega)) (aI (hv.away (j := nx + 3) (by omega)) (aI (hv.away (j := nx + 7) (by omega)) (hv.away (j := nx + 4) (by omega))))))
 have w_hvc := hv.cell.1
 have w_hvd := hv.cell.2
 have w_hve := hv.beq
 simp only [w_len, w_14, w_15, w_pp, ↓LA, LB, simprocAttr]
 refine z52 hu ?_ (z0j z7o) z02 ?_ ?_ ?_ ?_ ?_ fun chcu hcu => ?_
 ·intro q hq; obtain ⟨h1, h2, h3⟩ := hq; simp (disch := omega) only [z00]
 ·rfl
 ·omega
 ·simp; omega
 ·simp; omega
 ·rfl
 simp only [w_len, w_12, w_15, ↓LA, LB, simprocAttr]
 refine z52 hv ?_ (z0j z7o) z02 ?_ ?_ ?_ ?_ ?_ fun chcv hcv => ?_
 ·intro q hq; obtain ⟨h1, h2, h3, h4⟩ := hq; simp (disch := omega) only [z00, z07 (hu.away (j := q) (by intro h; exact h4 h.2.2))]
 ·rfl
 ·omega
 ·simp; omega
 ·simp; omega
 ·rfl
 simp only [w_len, w_14, w_pp, w_z, w_huV, w_hvV, ↓LA, LB, simprocAttr]
 have g1 : k ≤ z8u xu lw := zdo hu (fun q hq => by have := hq.1; omega) hlw
 have g2 := zdo hv (nx := k) (fun q hq => by have := hq.1; omega) g1
 have hfin : ∀ z : List (Nat × Obj), (∀ q, q ≠ pp → q ≠ nx + 3 → q ≠ nx + 4 → q ≠ nx + 7 → q ≠ nx + 8 → Go.Lift.away xu q → Go.Lift.away xv q → sget z q = sget s q) → sget z pp = some (.cells [.d (.str nm), .arr (nx + 4) 1 false 0 ((us.map D.str).length + 1)]) → sget z (nx + 4) = some (.cells (chcu ++ [.d (.str x)])) → sget z (nx + 8) = some (.cells (chcv ++ [.d (.str x)])) → ∀ nx' lw', nx + 12 ≤ nx' → k ≤ lw' →
   VarS k pc pp bs sO c rel nm xw (.arr (nx + 4) 1 false 0 ((us.map D.str).length + 1)) (.arr (nx + 8) 1 false 0 ((vs.map D.str).length + 1)) ps (us ++ [x]) (vs ++ [x]) z nx' lw' := fun z hz z1 z2 z3 nx' lw' hn' hl' => by
  have ev : (vs ++ [x]).map D.str = vs.map D.str ++ [.str x] := by simp
  have eu : (us ++ [x]).map D.str = us.map D.str ++ [.str x] := by simp
  have av : ∀ q, q < pp → (q < pc ∨ q = pc ∨ Go.Lift.away xv q) → Go.Lift.away xv q := fun q h1 h2 => hv.away (fun h => h2.elim (fun e => by have := h.1; omega) fun h2 => h2.elim (fun e => by have := h.1; omega) fun e => h.2.2.2 e)
  have hz' : ∀ q, q < pp → Go.Lift.away xv q → sget z q = sget s q := fun q h1 h2 => hz q (by omega) (by omega) (by omega) (by omega) (by omega) (hu.away (by intro h; have := h.1; omega)) h2
  refine ⟨hsk.frame (hz' k (by omega) (av k (by omega) (.inl hkp))) (Nat.le_refl _), (hz' pc (by omega) (av pc (by omega) (.inr (.inl rfl)))).trans w_pc, z1, ?_, ?_, ?_, fun q h1 h2 => (hz' q (by omega) (av q (by omega) (.inl h1))).trans (hfr q h1 h2), hl', by omega⟩
  ·rw [eu]
   exact z5p hcu (fun q h1 h2 => hz q (by have := h1.1; omega) (by have := h1.2.1; omega) (by have := h1.2.1; omega) (by have := h1.2.1; omega) (by have := h1.2.1; omega) h2 h1.2.2) (fun q h1 => ⟨h1.1, by have := h1.2.1; omega, by show ¬ _ = _; have := h1.2.1; omega⟩) ⟨by omega, by omega, by show ¬ _ = _; omega⟩ (fun h => by have := h.2.1; omega) z2 rfl ⟨CQ.str, trivial⟩
  ·rw [ev]
   exact zdp [.str x] hcv ⟨by omega, by omega, by omega, fun h => h rfl⟩ z3 (by simp) rfl ⟨CQ.str, trivial⟩
  ·exact (hw.frame fun q h => hz' q h.2.1 h.2.2).mono fun q h => ⟨h.1, h.2.1, by show ¬ _ = _; have := h.2.1; omega⟩
 refine hQ _ _ (.arr (nx + 4) 1 false 0 ((us.map D.str).length + 1)) (.arr (nx + 8) 1 false 0 ((vs.map D.str).length + 1)) (by simp only [w_len, LB, simprocAttr]) (by intro l h1 h2; simp (disch := omega) only [z0f]) (by simp only [w_len, LB, simprocAttr]) (hfin _ (fun q h1 h2 h3 h4 h5 h6 h7 => by simp (disch := omega) only [z00, z03, z07 h6, z07 h7]) ?_ ?_ ?_ _ _ (by show nx + 12 ≤ nx + _; omega) (by repeat' (first | omega | refine z01 ?_ ?_))) (by show nx ≤ nx + _; omega)
 ·simp only [w_pp, w_z, w_huV, w_hvV, LB, simprocAttr]
 ·simp (disch := omega) only [z00, z03, z07 (hv.away (j := nx + 4) (by intro h; have := h.2.1; omega)), z02]
 ·simp (disch := omega) only [z02]
theorem VarS.step {k pc pp c c' nx nx' lw lw' : Nat} {bs : List Int} {s s' sO : List (Nat × Obj)} {rel nm : List Nat} {xw xu xv : V} {ps : List PatT} {us vs : List (List Nat)} (h : VarS k pc pp bs sO c rel nm xw xu xv ps us vs s nx lw) (hkp : k < pc) (hpp : pc < pp)
  (hs : ∀ q, q < nx → q ≠ k → sget s' q = sget s q) (hsk : Sk s' k bs c') (hn : nx ≤ nx') (hl : k ≤ lw') : VarS k pc pp bs sO c' rel nm xw xu xv ps us vs s' nx' lw' := by
 obtain ⟨h1, h2, h3, h4, h5, h6, h7, h8, h9⟩ := h
 refine ⟨hsk, (hs pc (by omega) (by omega)).trans h2, (hs pp h9 (by omega)).trans h3, (h4.frame fun q hq => hs q hq.2.1 (by have := hq.1; omega)).mono fun q hq => ⟨hq.1, by have := hq.2.1; omega, hq.2.2⟩, (h5.frame fun q hq => hs q hq.2.1 (by have := hq.1; omega)).mono fun q hq => ⟨hq.1, by have := hq.2.1; omega, hq.2.2⟩, h6.frame fun q hq => hs q (by have := hq.2.1; omega) (by have := hq.1; omega), fun q g1 g2 => (hs q (by omega) g2).trans (h7 q g1 g2), hl, by omega⟩
theorem z9a : ∀ a : PatT, Elt 2 true a.d := fun a => zdz
set_option maxHeartbeats 2000000 in
theorem zn5 {bs : List Int} (hb : LOk bs) {k pc pp c K nx lw : Nat} {s sO : List (Nat × Obj)} {E : List V} {rel nm : List Nat} {xw xv : V} {ps : List PatT} {vs : List (List Nat)} {Q : Ex → List V → St → Prop} (hkp : k < pc) (hpp : pc < pp) (hc : c ≤ 400000) (hK : vs.length + K ≤ 4) (hvm : ∀ v ∈ vs, VarM v) (hpl : ps.length ≤ 10)
  (w_len : E.length = 171) (w_0 : E.getD 0 .undef = .ptr k 0) (w_11 : E.getD 11 .undef = .ptr pc 0) (w_12 : E.getD 12 .undef = xv) (w_13 : E.getD 13 .undef = .d (.int .i64 (K : Nat))) (w_14 : E.getD 14 .undef = .ptr pp 0)
  (h : VarS k pc pp bs sO c rel nm xw .nilS xv ps [] vs s nx lw)
  (hQ : ∀ e st xw' xv' us, e.length = 171 → (∀ l, l ≠ 12 → l ≠ 15 → l < 77 → e.getD l .undef = E.getD l .undef) → e.getD 12 .undef = xv' → us.length = K → (∀ v ∈ us, VarM v) → HeadS k pc bs sO (c + K) rel xw' xv' (ps ++ [⟨nm, us⟩]) (vs ++ us) st.s st.next st.low → nx ≤ st.next → Q .nrm e st) :
  PC (z0i (z06 G) z0h none T1.q4_77 E { s := s, next := nx, low := lw }) Q .mk := by
 have hlw0 := h.lw
 have hnx0 := h.nx
 obtain ⟨R, hR⟩ : ∃ R : IC, R = T1.q4_96 := ⟨_, rfl⟩
 unfold T1.q4_77
 rw [← hR]
 simp only [w_13, ↓LA, LB, simprocAttr]
 refine z0e (fun e0 s0 m env st => ∃ (j nxj lwj : Nat) (sj : List (Nat × Obj)) (xv xu : V) (us : List (List Nat)), m = K - j ∧ (j ≤ K) ∧ (VarS k pc pp bs sO (c + j) rel nm xw xu xv ps us (vs ++ us) sj nxj lwj) ∧ (us.length = j) ∧ ((∀ v ∈ us, VarM v)) ∧ ((∀ l, l ≠ 12 → l ≠ 15 → l < 77 → env.getD l .undef = E.getD l .undef)) ∧ nx ≤ nxj ∧ k ≤ lwj ∧ env.length = 171 ∧ env.getD 78 .undef = .d (.int .i64 j) ∧ env.getD 0 .undef = .ptr k 0 ∧ env.getD 11 .undef = .ptr pc 0 ∧ env.getD 12 .undef = xv ∧ env.getD 14 .undef = .ptr pp 0 ∧ env.getD 77 .undef = .d (.int .i64 (K : Nat)) ∧ st = { s := sj, next := nxj, low := lwj }) ?_ (K) (by refine ⟨0, _, _, _, xv, .nilS, [], rfl, by omega, (by rw [List.append_nil]; exact ⟨h.sk, h.pcl, h.ppl, GP.nil, h.v.mono fun q h => ⟨h.1, by have := h.2.1; omega, h.2.2⟩, h.w, h.fr, h.lw, Nat.lt_of_lt_of_le h.nx (Nat.le_add_right _ _)⟩), rfl, (fun v h => by simp at h), (by intro l h1 h2 h3; simp (disch := omega) only [z0f]), (by omega), (by first | exact Nat.zero_le _ | omega | exact z01 (by omega) (by omega) | exact z01 (z01 (by omega) (by omega)) (by omega) | exact z01 (z01 (z01 (by omega) (by omega)) (by omega)) (by omega)), ?_, ?_, ?_, ?_, ?_, ?_, ?_, rfl⟩ <;> simp only [w_len, w_0, w_11, w_12, w_14, LB, simprocAttr])
 rintro m env st ⟨j, nxj, lwj, sj, xv, xu, us, hm, j_0, j_1, j_2, j_3, j_4, w_jb, w_jlo, w_len, w_78, w_0, w_11, w_12, w_14, w_77, rfl⟩
 obtain ⟨N, hN⟩ : ∃ N, N = (vs ++ us).length := ⟨_, rfl⟩
 have hN' := hN
 rw [List.length_append, j_2] at hN'
 have hlen : opLen false xv = some N := by rw [j_1.v.len, List.length_map, hN]
 have hnx := j_1.nx
 have hlwj := j_1.lw
 by_cases hj : j < K
 ·have hw1 : IntKind.i64.wrap (97 + (N : Int)) = ((97 + N : Nat) : Int) := by rw [z3f (by omega) (by omega)]; omega
  have hw2 : IntKind.i32.wrap ((97 + N : Nat) : Int) = ((97 + N : Nat) : Int) := zeq (by omega) (by omega)
  have hcv := fun (st : St) => zcg (k := .i32) (n := 97 + N) (st := st) (by omega)
  have hvm2 : ∀ v ∈ vs ++ us, VarM v := fun v hv => (List.mem_append.1 hv).elim (hvm v) (j_3 v)
  have hnew : VarM [118, 97 + N] := ⟨N, by omega, rfl⟩
  by_cases h0 : 0 < N
  ·have hgt : ((0 : Int) < (N : Nat)) = True := eq_true (by omega)
   simp only [hj, hlen, hw1, hw2, hcv, zco, hgt, w_len, w_78, w_0, w_12, w_77, ↓LA, LB, simprocAttr]
   refine z0s (zy7 hb (n := 8) (by omega) (by omega) (by omega) (by omega) j_1.sk) fun v st hD => ?_
   obtain ⟨⟨b, rfl⟩, hn1, hf1, hS1, hl1⟩ := hD
   obtain ⟨s1, n1, l1⟩ := st
   have hn1 : nxj + 15 ≤ n1 := hn1
   have hf1 : ∀ q, q < nxj + 15 → q ≠ k → sget s1 q = sget sj q := hf1
   have k1 : k ≤ l1 := hl1 k hlwj (Nat.le_refl _)
   have h1 := j_1.step hkp hpp (fun q g1 g2 => hf1 q (by omega) g2) hS1 (show nxj ≤ n1 by omega) k1
   cases b with
   | false =>
    simp only [w_len, ↓LA, LB, simprocAttr]
    rw [hR]
    refine zij hkp hpp (show us.length ≤ 10 by omega) (show (vs ++ us).length ≤ 10 by omega) (x := [118, 97 + N]) (by simp only [w_len, LB, simprocAttr]) (by simp only [w_12, LB, simprocAttr]) (by simp only [w_14, LB, simprocAttr]) (by simp only [w_len, LB, simprocAttr]) (h1.step hkp hpp (fun _ _ _ => rfl) h1.sk (by first | exact Nat.le_refl _ | exact Nat.le_add_right _ _) h1.lw) ?_
    intro e st xu' xv' w_len hE w_12 hV hn2
    obtain ⟨s2, n2, l2⟩ := st
    have hn2 : n1 ≤ n2 := by first | exact hn2 | exact Nat.le_trans (Nat.le_add_right _ _) hn2
    have hV : VarS k pc pp bs sO (c + j + 1) rel nm xw xu' xv' ps (us ++ [[118, 97 + N]]) (vs ++ us ++ [[118, 97 + N]]) s2 n2 l2 := hV
    have hl2 := hV.lw
    have w_78 : e.getD 78 .undef = .d (.int .i64 j) := (hE 78 (by omega) (by omega)).trans (by simp only [w_78, LB, simprocAttr])
    have w_0 : e.getD 0 .undef = .ptr k 0 := (hE 0 (by omega) (by omega)).trans (by simp only [w_0, LB, simprocAttr])
    have w_11 : e.getD 11 .undef = .ptr pc 0 := (hE 11 (by omega) (by omega)).trans (by simp only [w_11, LB, simprocAttr])
    have w_14 : e.getD 14 .undef = .ptr pp 0 := (hE 14 (by omega) (by omega)).trans (by simp only [w_14, LB, simprocAttr])
    have w_77 : e.getD 77 .undef = .d (.int .i64 (K : Nat)) := (hE 77 (by omega) (by omega)).trans (by simp only [w_77, LB, simprocAttr])
    have hE2 : ∀ l, l ≠ 12 → l ≠ 15 → l < 77 → e.getD l .undef = E.getD l .undef := fun l g1 g2 g3 => (hE l g1 (by omega)).trans (by simp (disch := omega) only [z0f]; exact j_4 l g1 g2 g3)
    simp only [z08 hj (by omega), w_len, w_78, ↓LA, LB, simprocAttr]
    exact z0c (by refine ⟨_, by omega, j + 1, _, _, _, xv', xu', us ++ [[118, 97 + N]], rfl, by omega, (by rw [← List.append_assoc]; exact hV.step hkp hpp (fun _ _ _ => rfl) hV.sk (Nat.le_add_right _ _) hV.lw), (by rw [List.length_append, j_2]; rfl), (fun v hv => (List.mem_append.1 hv).elim (j_3 v) fun hv => by rw [List.mem_singleton] at hv; subst hv; exact hnew), (by intro l h1 h2 h3; simp (disch := omega) only [z0f]; exact hE2 l h1 h2 h3), (by omega), (by first | exact Nat.zero_le _ | omega | exact z01 (by omega) (by omega) | exact z01 (z01 (by omega) (by omega)) (by omega) | exact z01 (z01 (z01 (by omega) (by omega)) (by omega)) (by omega)), ?_, ?_, ?_, ?_, ?_, ?_, ?_, rfl⟩ <;> simp only [w_len, w_0, w_11, w_12, w_14, w_77, LB, simprocAttr])
   | true =>
    obtain ⟨kv, cv, hxv, hkv1, hkv2, hat⟩ := y0y j_1.v (by omega)
    have hia : z0a 1 xv 0 = some (.ptr kv 0) := (hat 0 (by omega)).1
    obtain ⟨_, hl1', hcv1⟩ := hat 0 (by omega)
    rw [List.drop_zero] at hcv1
    have w_kv : sget s1 kv = some (.cells cv) := (hf1 kv (by have := hkv1.2.1; omega) (by have := hkv1.1; omega)).trans hkv2
    obtain ⟨x, hx⟩ : ∃ x, x = (vs ++ us)[0]'(by omega) := ⟨_, rfl⟩
    have hxm : VarM x := hvm2 x (by rw [hx]; exact List.getElem_mem _)
    rw [← hx] at hcv1
    simp only [hia, hl1', hcv1, w_len, w_12, w_kv, ↓LA, LB, simprocAttr]
    rw [hR]
    refine zij hkp hpp (show us.length ≤ 10 by omega) (show (vs ++ us).length ≤ 10 by omega) (x := x) (by simp only [w_len, LB, simprocAttr]) (by simp only [w_12, LB, simprocAttr]) (by simp only [w_14, LB, simprocAttr]) (by simp only [w_len, LB, simprocAttr]) (h1.step hkp hpp (fun _ _ _ => rfl) h1.sk (by first | exact Nat.le_refl _ | exact Nat.le_add_right _ _) h1.lw) ?_
    intro e st xu' xv' w_len hE w_12 hV hn2
    obtain ⟨s2, n2, l2⟩ := st
    have hn2 : n1 ≤ n2 := by first | exact hn2 | exact Nat.le_trans (Nat.le_add_right _ _) hn2
    have hV : VarS k pc pp bs sO (c + j + 1) rel nm xw xu' xv' ps (us ++ [x]) (vs ++ us ++ [x]) s2 n2 l2 := hV
    have hl2 := hV.lw
    have w_78 : e.getD 78 .undef = .d (.int .i64 j) := (hE 78 (by omega) (by omega)).trans (by simp only [w_78, LB, simprocAttr])
    have w_0 : e.getD 0 .undef = .ptr k 0 := (hE 0 (by omega) (by omega)).trans (by simp only [w_0, LB, simprocAttr])
    have w_11 : e.getD 11 .undef = .ptr pc 0 := (hE 11 (by omega) (by omega)).trans (by simp only [w_11, LB, simprocAttr])
    have w_14 : e.getD 14 .undef = .ptr pp 0 := (hE 14 (by omega) (by omega)).trans (by simp only [w_14, LB, simprocAttr])
    have w_77 : e.getD 77 .undef = .d (.int .i64 (K : Nat)) := (hE 77 (by omega) (by omega)).trans (by simp only [w_77, LB, simprocAttr])
    have hE2 : ∀ l, l ≠ 12 → l ≠ 15 → l < 77 → e.getD l .undef = E.getD l .undef := fun l g1 g2 g3 => (hE l g1 (by omega)).trans (by simp (disch := omega) only [z0f]; exact j_4 l g1 g2 g3)
    simp only [z08 hj (by omega), w_len, w_78, ↓LA, LB, simprocAttr]
    exact z0c (by refine ⟨_, by omega, j + 1, _, _, _, xv', xu', us ++ [x], rfl, by omega, (by rw [← List.append_assoc]; exact hV.step hkp hpp (fun _ _ _ => rfl) hV.sk (Nat.le_add_right _ _) hV.lw), (by rw [List.length_append, j_2]; rfl), (fun v hv => (List.mem_append.1 hv).elim (j_3 v) fun hv => by rw [List.mem_singleton] at hv; subst hv; exact hxm), (by intro l h1 h2 h3; simp (disch := omega) only [z0f]; exact hE2 l h1 h2 h3), (by omega), (by first | exact Nat.zero_le _ | omega | exact z01 (by omega) (by omega) | exact z01 (z01 (by omega) (by omega)) (by omega) | exact z01 (z01 (z01 (by omega) (by omega)) (by omega)) (by omega)), ?_, ?_, ?_, ?_, ?_, ?_, ?_, rfl⟩ <;> simp only [w_len, w_0, w_11, w_12, w_14, w_77, LB, simprocAttr])
  ·have hgt : ((0 : Int) < (N : Nat)) = False := eq_false (by omega)
   simp only [hj, hlen, hw1, hw2, hcv, zco, hgt, w_len, w_78, w_12, w_77, ↓LA, LB, simprocAttr]
   rw [hR]
   refine zij hkp hpp (show us.length ≤ 10 by omega) (show (vs ++ us).length ≤ 10 by omega) (x := [118, 97 + N]) (by simp only [w_len, LB, simprocAttr]) (by simp only [w_12, LB, simprocAttr]) (by simp only [w_14, LB, simprocAttr]) (by simp only [w_len, LB, simprocAttr]) (j_1.step hkp hpp (fun _ _ _ => rfl) (j_1.sk.frame rfl (Nat.le_succ _)) (Nat.le_add_right _ _) j_1.lw) ?_
   intro e st xu' xv' w_len hE w_12 hV hn2
   obtain ⟨s2, n2, l2⟩ := st
   have hn2 : nxj + _ ≤ n2 := hn2
   have hV : VarS k pc pp bs sO (c + j + 1) rel nm xw xu' xv' ps (us ++ [[118, 97 + N]]) (vs ++ us ++ [[118, 97 + N]]) s2 n2 l2 := hV
   have hl2 := hV.lw
   have w_78 : e.getD 78 .undef = .d (.int .i64 j) := (hE 78 (by omega) (by omega)).trans (by simp only [w_78, LB, simprocAttr])
   have w_0 : e.getD 0 .undef = .ptr k 0 := (hE 0 (by omega) (by omega)).trans (by simp only [w_0, LB, simprocAttr])
   have w_11 : e.getD 11 .undef = .ptr pc 0 := (hE 11 (by omega) (by omega)).trans (by simp only [w_11, LB, simprocAttr])
   have w_14 : e.getD 14 .undef = .ptr pp 0 := (hE 14 (by omega) (by omega)).trans (by simp only [w_14, LB, simprocAttr])
   have w_77 : e.getD 77 .undef = .d (.int .i64 (K : Nat)) := (hE 77 (by omega) (by omega)).trans (by simp only [w_77, LB, simprocAttr])
   have hE2 : ∀ l, l ≠ 12 → l ≠ 15 → l < 77 → e.getD l .undef = E.getD l .undef := fun l g1 g2 g3 => (hE l g1 (by omega)).trans (by simp (disch := omega) only [z0f]; exact j_4 l g1 g2 g3)
   simp only [z08 hj (by omega), w_len, w_78, ↓LA, LB, simprocAttr]
   exact z0c (by refine ⟨_, by omega, j + 1, _, _, _, xv', xu', us ++ [[118, 97 + N]], rfl, by omega, (by rw [← List.append_assoc]; exact hV.step hkp hpp (fun _ _ _ => rfl) hV.sk (Nat.le_add_right _ _) hV.lw), (by rw [List.length_append, j_2]; rfl), (fun v hv => (List.mem_append.1 hv).elim (j_3 v) fun hv => by rw [List.mem_singleton] at hv; subst hv; exact hnew), (by intro l h1 h2 h3; simp (disch := omega) only [z0f]; exact hE2 l h1 h2 h3), (by omega), (by first | exact Nat.zero_le _ | omega | exact z01 (by omega) (by omega) | exact z01 (z01 (by omega) (by omega)) (by omega) | exact z01 (z01 (z01 (by omega) (by omega)) (by omega)) (by omega)), ?_, ?_, ?_, ?_, ?_, ?_, ?_, rfl⟩ <;> simp only [w_len, w_0, w_11, w_12, w_14, w_77, LB, simprocAttr])
 ·have hjK : us.length = K := by omega
  obtain ⟨hsk, w_pc, w_pp, hu, hv, hw, hfr, hlw, _⟩ := j_1
  have w_z := (zf (x := nxj) (b := pp) (n := 1) (by omega) (by omega))
  have w_z2 := (zf (x := nxj) (b := pc) (n := 1) (by omega) (by omega))
  have w_pN := aI (cf1 (x := nxj) (a := pc) (by omega)) (cf1 (x := nxj) (a := pp) (by omega))
  have w_pS := aI (cf2 (x := nxj) (by omega) w_pc) (cf2 (x := nxj) (by omega) w_pp)
  have w_hwV := aI (hw.away (j := k) (by omega)) (aI (hw.away (j := pc) (by omega)) (aI (hw.away (j := pp) (by omega)) (hw.away (j := nxj + 4) (by omega))))
  have w_hwc := hw.cell.1
  have w_hwd := hw.cell.2
  have w_hwe := hw.beq
  have w_uc := hu.cell.1
  have w_ud := hu.cell.2
  have w_ue := hu.beq
  simp only [hj, w_len, w_78, w_11, w_14, w_77, w_pc, w_pp, w_uc, ↓LA, LB, simprocAttr]
  have hlen2 : ps.length ≤ 10 := hpl
  refine z52 hw ?_ (z0j z9a) z02 ?_ ?_ ?_ ?_ ?_ fun chcw hcw => ?_
  ·intro q hq; obtain ⟨h1, h2, h3⟩ := hq; simp (disch := omega) only [z00]
  ·rfl
  ·omega
  ·simp; omega
  ·simp; omega
  ·simp only [List.all_cons, List.all_nil, zfv, w_uc, Bool.and_self]
  simp only [w_len, w_11, w_pc, w_z2, w_hwV, ↓LA, LB, simprocAttr]
  have ep : (ps ++ [(⟨nm, us⟩ : PatT)]).map PatT.d = ps.map PatT.d ++ [.agg [.str nm, .sl (us.map D.str)]] := by rw [List.map_append]; rfl
  have g1 : k ≤ z8u xw lwj := zdo hw (fun q hq => by have := hq.1; omega) hlw
  have hfin : ∀ z : List (Nat × Obj), (∀ q, q ≠ pc → q ≠ nxj + 4 → q ≠ nxj + 5 → Go.Lift.away xw q → sget z q = sget sj q) → sget z pc = some (.cells [.d (.str rel), .arr (nxj + 5) 2 true 0 ((ps.map PatT.d).length + 1), .nilS]) → sget z (nxj + 5) = some (.cells (chcw ++ [.d (.str nm), xu])) → ∀ nx' lw', nxj + 8 ≤ nx' → k ≤ lw' →
    HeadS k pc bs sO (c + K) rel (.arr (nxj + 5) 2 true 0 ((ps.map PatT.d).length + 1)) xv (ps ++ [⟨nm, us⟩]) (vs ++ us) z nx' lw' := fun z hz z1 z2 nx' lw' hn' hl' => by
   have aw : ∀ q, (q < pc ∨ q = pc ∨ pp ≤ q ∨ ¬ Go.Lift.away xv q) → Go.Lift.away xw q := fun q h => hw.away (fun a => by
    rcases h with h | h | h | h
    ·have := a.1; omega
    ·have := a.1; omega
    ·have := a.2.1; omega
    ·exact h a.2.2)
   have hz' : ∀ q, q < nxj → q ≠ pc → (q < pc ∨ q = pc ∨ pp ≤ q ∨ ¬ Go.Lift.away xv q) → sget z q = sget sj q := fun q h1 h2 h3 => hz q h2 (by omega) (by omega) (aw q h3)
   refine ⟨hsk.frame (hz' k (by omega) (by omega) (.inl hkp)) (by omega), z1, ?_, ?_, fun q h1 h2 => (hz' q (by omega) (by omega) (.inl h1)).trans (hfr q h1 h2), hl', by omega⟩
   ·rw [ep]
    refine z5p hcw (fun q h1 h2 => hz q (by have := h1.1; omega) (by have := h1.2.1; omega) (by have := h1.2.1; omega) h2) (fun q h1 => ⟨h1.1, by have := h1.2.1; omega, h1.2.2⟩) ⟨by omega, by omega, hv.away fun h => by have := h.2.1; omega⟩ (fun h => by have := h.2.1; omega) z2 rfl ⟨CQ.str, ?_, trivial⟩
    refine CQ.mono (fun q hq => ⟨⟨by have := hq.1; omega, by have := hq.2.1; omega, hq.2.2⟩, by have := hq.2.1; omega⟩) (CQ.frame (fun q hq => hz' q hq.2.1 (by have := hq.1; omega) (.inr (.inr (.inl (by have := hq.1; omega))))) (hu.cv (by omega) (z0j z7o)))
   ·exact (hv.frame fun q h => hz' q h.2.1 (by have := h.1; omega) (.inr (.inr (.inr h.2.2.2)))).mono fun q h => ⟨h.1, by have := h.2.1; omega, h.2.2.2⟩
  refine hQ _ _ _ xv us (by simp only [w_len, LB, simprocAttr]) (by intro l h1 h2 h3; simp (disch := omega) only [z0f]; exact j_4 l h1 h2 h3) (by simp only [w_12, LB, simprocAttr]) hjK j_3 (hfin _ (fun q h1 h2 h3 h4 => by simp (disch := omega) only [z00, z03, z07 h4]) ?_ ?_ _ _ (by show nxj + 8 ≤ nxj + _; omega) (by repeat' (first | omega | refine z01 ?_ ?_))) (by show nx ≤ nxj + _; omega)
  ·simp only [w_pc, w_z2, w_hwV, LB, simprocAttr]
  ·simp (disch := omega) only [z02]
end Go.Lift.K
namespace Go.Lift.K
open Go Go.Lift
set_option maxRecDepth 100000
def hdsC : List V := [.d (.str [97]), .d (.str [110, 105, 108]), .d (.str [115]), .d (.str [117]), .d (.str [99, 111, 110, 115]), .d (.str [112])]
theorem y2e {kk r : Nat} (hk : kk < 3) (hr : r < 2) : ∃ nm, (hdsC.drop (kk * 2 + r)).take 1 = [.d (.str nm)] ∧ z0z nm = true ∧ nm.length ≤ 8 ∧ (∀ c ∈ nm, c < 256) := by
 have h1 : kk = 0 ∨ kk = 1 ∨ kk = 2 := by omega
 have h2 : r = 0 ∨ r = 1 := by omega
 rcases h1 with rfl | rfl | rfl <;> rcases h2 with rfl | rfl
 ·exact ⟨[97], rfl, by decide, by decide, by decide⟩
 ·exact ⟨[110, 105, 108], rfl, by decide, by decide, by decide⟩
 ·exact ⟨[115], rfl, by decide, by decide, by decide⟩
 ·exact ⟨[117], rfl, by decide, by decide, by decide⟩
 ·exact ⟨[99, 111, 110, 115], rfl, by decide, by decide, by decide⟩
 ·exact ⟨[112], rfl, by decide, by decide, by decide⟩
theorem y40 {h kk : Nat} (hk : kk < 3) : z1j 3 2 (.ptr h 0) (kk : Int) = some (.ptr h (kk * 2)) := by
 simp only [z1j]
 rw [if_pos ⟨by omega, by omega⟩]
 simp
theorem y41 {h o r : Nat} (hr : r < 2) : z1j 2 1 (.ptr h o) (r : Int) = some (.ptr h (o + r)) := by
 simp only [z1j]
 rw [if_pos ⟨by omega, by omega⟩]
 simp
theorem HeadS.toVar {k pc pp c c' nx nx' lw lw' : Nat} {bs : List Int} {s s' sO : List (Nat × Obj)} {rel nm : List Nat} {xw xv : V} {ps : List PatT} {vs : List (List Nat)} (h : HeadS k pc bs sO c rel xw xv ps vs s nx lw) (hkp : k < pc)
  (hs : ∀ q, q < nx → q ≠ k → sget s' q = sget s q) (hsk : Sk s' k bs c') (hpp : nx ≤ pp) (hp : sget s' pp = some (.cells [.d (.str nm), .nilS])) (hn : pp < nx') (hl : k ≤ lw') : VarS k pc pp bs sO c' rel nm xw .nilS xv ps [] vs s' nx' lw' := by
 obtain ⟨h1, h2, h3, h4, h5, h6, h7⟩ := h
 refine ⟨hsk, (hs pc (by omega) (by omega)).trans h2, hp, GP.nil, (h4.frame fun q hq => hs q hq.2.1 (by have := hq.1; omega)).mono fun q hq => ⟨hq.1, by have := hq.2.1; omega, by have := hq.2.1; show ¬ _ = _; omega, hq.2.2⟩, (h3.frame fun q hq => hs q hq.2.1 (by have := hq.1; omega)).mono fun q hq => ⟨hq.1, by have := hq.2.1; omega, hq.2.2⟩, fun q g1 g2 => (hs q (by omega) g2).trans (h5 q g1 g2), hl, hn⟩
set_option maxHeartbeats 2000000 in
theorem y1g {bs : List Int} (hb : LOk bs) {k pc hh c i ar nx lw : Nat} {s sO : List (Nat × Obj)} {E : List V} {rel : List Nat} {xw xv : V} {ps : List PatT} {vs : List (List Nat)} {Q : Ex → List V → St → Prop} (hkp : k < pc) (hhp : hh < pc) (hhk : hh ≠ k) (hhd : sget sO hh = some (.cells hdsC)) (hc : c ≤ 300000) (hvl : vs.length + 2 ≤ 4) (hvm : ∀ v ∈ vs, VarM v) (hpl : ps.length ≤ 9) (hi : i < ar) (har : ar ≤ 1000)
  (w_len : E.length = 171) (w_0 : E.getD 0 .undef = .ptr k 0) (w_9 : E.getD 9 .undef = .ptr hh 0) (w_11 : E.getD 11 .undef = .ptr pc 0) (w_12 : E.getD 12 .undef = xv) (w_62 : E.getD 62 .undef = .d (.int .i64 (ar : Nat))) (w_63 : E.getD 63 .undef = .d (.int .i64 (i : Nat)))
  (h : HeadS k pc bs sO c rel xw xv ps vs s nx lw)
  (hQ : ∀ e st xw' xv' p, e.length = 171 → (∀ l, (l < 12 ∨ 16 ≤ l) → l < 63 → e.getD l .undef = E.getD l .undef) → e.getD 12 .undef = xv' → e.getD 63 .undef = .d (.int .i64 ((i + 1 : Nat) : Int)) → PatM p → HeadS k pc bs sO (c + 5) rel xw' xv' (ps ++ [p]) (vs ++ p.vars) st.s st.next st.low → nx ≤ st.next → Q .nrm e st) :
  PC (z0i (z06 G) z0h none T1.q4_64 E { s := s, next := nx, low := lw }) Q .mk := by
 have hlw0 := h.lw
 have hnx0 := h.nx
 have hhd2 : sget s hh = some (.cells hdsC) := (h.fr hh hhp hhk).trans hhd
 obtain ⟨R, hR⟩ : ∃ R : IC, R = T1.q4_77 := ⟨_, rfl⟩
 unfold T1.q4_64
 rw [← hR]
 simp only [hi, w_len, w_0, w_62, w_63, ↓LA, LB, simprocAttr]
 refine z0s (z2h hb (n := 4) (by omega) (by omega) (by omega) (by omega) h.sk) fun v st hD => ?_
 obtain ⟨⟨kk, hkk, rfl⟩, hn1, hf1, hS1, hl1⟩ := hD
 obtain ⟨s1, n1, l1⟩ := st
 have hn1 : nx + _ ≤ n1 := hn1
 have hf1 : ∀ q, q < nx → q ≠ k → sget s1 q = sget s q := fun q g1 g2 => hf1 q (Nat.lt_of_lt_of_le g1 (Nat.le_add_right _ _)) g2
 have k1 : k ≤ l1 := hl1 k hlw0 (Nat.le_refl _)
 by_cases h3 : kk < 3
 ·have hlt : ((kk : Int) < 3) = True := eq_true (by omega)
  simp only [hlt, y40 h3, w_len, w_0, w_9, ↓LA, LB, simprocAttr]
  refine z0s (z2h hb (n := 2) (by omega) (by omega) (by omega) (by omega) (hS1.frame (z00 (by omega)) (Nat.le_refl _))) fun v st hD => ?_
  obtain ⟨⟨r, hr, rfl⟩, hn2, hf2, hS2, hl2⟩ := hD
  obtain ⟨s2, n2, l2⟩ := st
  have hn2 : n1 + 13 ≤ n2 := hn2
  have hf2 : ∀ q, q < n1 + 13 → q ≠ k → sget s2 q = sget ((n1 + 1, Obj.cells [V.d (.str []), V.nilS]) :: s1) q := hf2
  have k2 : k ≤ l2 := hl2 k (by repeat' (first | omega | refine z01 ?_ ?_)) (Nat.le_refl _)
  obtain ⟨nm, ha1, ha2, ha3, ha4⟩ := y2e h3 hr
  have w_pp : sget s2 (n1 + 1) = some (.cells [.d (.str []), .nilS]) := (hf2 _ (by omega) (by omega)).trans z02
  have w_hh : sget s2 hh = some (.cells hdsC) := (hf2 _ (by omega) hhk).trans ((z00 (by omega)).trans ((hf1 _ (by omega) hhk).trans hhd2))
  have hle : (kk * 2 + (r + 1) ≤ hdsC.length) = True := eq_true (by show _ ≤ 6; omega)
  simp only [y41 hr, hle, ha1, w_len, w_pp, w_hh, ↓LA, LB, simprocAttr]
  rw [hR]
  have hfr : ∀ q, q < nx → q ≠ k → sget (sset s2 (n1 + 1) (.cells [.d (.str nm), .nilS])) q = sget s q := fun q g1 g2 => by rw [z03 (by omega), hf2 q (by omega) g2, z00 (by omega)]; exact hf1 q g1 g2
  refine zn5 hb hkp (pp := n1 + 1) (by omega) (c := c + 2) (by omega) (K := kk) (by omega) hvm (by omega) (nm := nm) (by simp only [w_len, LB, simprocAttr]) (by simp only [w_0, LB, simprocAttr]) (by simp only [w_11, LB, simprocAttr]) (by simp only [w_12, LB, simprocAttr]) (by simp only [w_len, LB, simprocAttr]) (by simp only [w_len, LB, simprocAttr]) (h.toVar hkp hfr (hS2.frame (z03 (by omega)) (Nat.le_refl _)) (by omega) (z04 w_pp) (by omega) (by repeat' (first | omega | refine z01 ?_ ?_))) ?_
  intro e st xw' xv' us w_len hE w_12 hul huv hH hn3
  obtain ⟨s3, n3, l3⟩ := st
  have hn3 : n2 ≤ n3 := by first | exact hn3 | exact Nat.le_trans (Nat.le_add_right _ _) hn3
  have w_63 : e.getD 63 .undef = .d (.int .i64 i) := (hE 63 (by omega) (by omega) (by omega)).trans (by simp only [w_63, LB, simprocAttr])
  simp only [z08 hi (by omega), w_len, w_63, ↓LA, LB, simprocAttr]
  refine hQ _ _ xw' xv' ⟨nm, us⟩ (by simp only [w_len, LB, simprocAttr]) (by intro l g1 g2; simp (disch := omega) only [z0f]; rw [hE l (by omega) (by omega) (by omega)]; simp (disch := omega) only [z0f]) (by simp only [w_12, LB, simprocAttr]) (by simp only [w_len, LB, simprocAttr]; try rfl) ⟨.inr ⟨ha2, by show us.length ≤ 2; omega⟩, ha3, ha4, huv⟩ ?_ (by show nx ≤ n3 + _; omega)
  exact ⟨hH.sk.frame rfl (by omega), hH.pcl, hH.w.mono fun q g => ⟨g.1, by have : q < n3 := g.2.1; show q < n3 + _; omega, g.2.2⟩, hH.v.mono fun q g => ⟨g.1, by have : q < n3 := g.2.1; show q < n3 + _; omega, g.2.2⟩, hH.fr, hH.lw, by have : pc < n3 := hH.nx; show pc < n3 + _; omega⟩
 ·have hlt : ((kk : Int) < 3) = False := eq_false (by omega)
  simp only [hlt, w_len, ↓LA, LB, simprocAttr]
  rw [hR]
  have hfr : ∀ q, q < nx → q ≠ k → sget ((n1 + 1, Obj.cells [V.d (D.str []), V.nilS]) :: s1) q = sget s q := fun q g1 g2 => by rw [z00 (by omega)]; exact hf1 q g1 g2
  refine zn5 hb hkp (pp := n1 + 1) (by omega) (c := c + 2) (by omega) (K := 1) (by omega) hvm (by omega) (nm := []) (by simp only [w_len, LB, simprocAttr]) (by simp only [w_0, LB, simprocAttr]) (by simp only [w_11, LB, simprocAttr]) (by simp only [w_12, LB, simprocAttr]) (by simp only [w_len, LB, simprocAttr]; try rfl) (by simp only [w_len, LB, simprocAttr]) (h.toVar hkp hfr (hS1.frame (z00 (by omega)) (by omega)) (by omega) z02 (by omega) (by repeat' (first | omega | refine z01 ?_ ?_))) ?_
  intro e st xw' xv' us w_len hE w_12 hul huv hH hn3
  obtain ⟨s3, n3, l3⟩ := st
  have hn3 : n1 ≤ n3 := by first | exact hn3 | exact Nat.le_trans (Nat.le_add_right _ _) hn3
  have w_63 : e.getD 63 .undef = .d (.int .i64 i) := (hE 63 (by omega) (by omega) (by omega)).trans (by simp only [w_63, LB, simprocAttr])
  simp only [z08 hi (by omega), w_len, w_63, ↓LA, LB, simprocAttr]
  refine hQ _ _ xw' xv' ⟨[], us⟩ (by simp only [w_len, LB, simprocAttr]) (by intro l g1 g2; simp (disch := omega) only [z0f]; rw [hE l (by omega) (by omega) (by omega)]; simp (disch := omega) only [z0f]) (by simp only [w_12, LB, simprocAttr]) (by simp only [w_len, LB, simprocAttr]; try rfl) ⟨.inl ⟨rfl, by show us.length = 1; omega⟩, by simp, by simp, huv⟩ ?_ (by show nx ≤ n3 + _; omega)
  exact ⟨hH.sk.frame rfl (by omega), hH.pcl, hH.w.mono fun q g => ⟨g.1, by have : q < n3 := g.2.1; show q < n3 + _; omega, g.2.2⟩, hH.v.mono fun q g => ⟨g.1, by have : q < n3 := g.2.1; show q < n3 + _; omega, g.2.2⟩, hH.fr, hH.lw, by have : pc < n3 := hH.nx; show pc < n3 + _; omega⟩
end Go.Lift.K
namespace Go.Lift.K
open Go Go.Lift
set_option maxRecDepth 100000
structure BodyS (k pc n0 : Nat) (bs : List Int) (sO : List (Nat × Obj)) (c : Nat) (rel : List Nat) (xw xv xb : V) (ps : List PatT) (vs : List (List Nat)) (as : List PatT) (s : List (Nat × Obj)) (nx lw : Nat) : Prop where
 sk : Sk s k bs c
 pcl : sget s pc = some (.cells [.d (.str rel), xw, xb])
 w : GP s false (fun q => pc + 1 ≤ q ∧ q < n0 ∧ away xv q) 1 2 true xw (ps.map PatT.d)
 v : GP s false (fun q => pc + 1 ≤ q ∧ q < n0 ∧ ¬ away xv q) 0 1 false xv (vs.map D.str)
 b : Gr s false n0 1 nx 2 true xb (as.map PatT.d)
 fr : ∀ q, q < pc → q ≠ k → sget s q = sget sO q
 lw : k ≤ lw
 nx : pc < n0 ∧ n0 ≤ nx
theorem BodyS.step {k pc n0 c c' nx nx' lw lw' : Nat} {bs : List Int} {s s' sO : List (Nat × Obj)} {rel : List Nat} {xw xv xb : V} {ps as : List PatT} {vs : List (List Nat)} (h : BodyS k pc n0 bs sO c rel xw xv xb ps vs as s nx lw) (hkp : k < pc)
  (hs : ∀ q, q < nx → q ≠ k → sget s' q = sget s q) (hsk : Sk s' k bs c') (hn : nx ≤ nx') (hl : k ≤ lw') : BodyS k pc n0 bs sO c' rel xw xv xb ps vs as s' nx' lw' := by
 obtain ⟨h1, h2, h3, h4, h5, h6, h7, h8, h9⟩ := h
 exact ⟨hsk, (hs pc (by omega) (by omega)).trans h2, h3.frame fun q hq => hs q (by have := hq.2.1; omega) (by have := hq.1; omega), h4.frame fun q hq => hs q (by have := hq.2.1; omega) (by have := hq.1; omega), (h5.frame fun q g1 g2 => hs q g2 (by omega)).hi hn, fun q g1 g2 => (hs q (by omega) g2).trans (h6 q g1 g2), hl, h8, by omega⟩
theorem HeadS.toBody {k pc c nx lw : Nat} {bs : List Int} {s sO : List (Nat × Obj)} {rel : List Nat} {xw xv : V} {ps : List PatT} {vs : List (List Nat)} (h : HeadS k pc bs sO c rel xw xv ps vs s nx lw) : BodyS k pc nx bs sO c rel xw xv .nilS ps vs [] s nx lw := ⟨h.sk, h.pcl, h.w, h.v, Gr.nil, h.fr, h.lw, h.nx, Nat.le_refl _⟩
set_option maxHeartbeats 4000000 in
theorem y09 {bs : List Int} (hb : LOk bs) {k pc z kr n0 c i nb nx lw : Nat} {s sO : List (Nat × Obj)} {E : List V} {rel : List Nat} {xc xw xv xb : V} {ps as : List PatT} {vs : List (List Nat)} {cs : List V} {rs : List RelT} {Q : Ex → List V → St → Prop}
  (hkp : k < pc) (hzk : k < z ∧ z + 1 < pc ∧ kr < pc ∧ kr ≠ k ∧ kr ≠ z + 1) (hz1 : sget sO (z + 1) = some (.cells [.arr kr 3 true 0 rs.length, xc])) (hkr : sget sO kr = some (.cells cs)) (hxc : V.beq xc xc = true)
  (hat : ∀ j (hj : j < rs.length), z0a 3 (.arr kr 3 true 0 rs.length) (j : Int) = some (.ptr kr (j * 3)) ∧ (j * 3 + 3 ≤ cs.length) = True ∧ (cs.drop (j * 3)).take 3 = [.d (.str rs[j].name), .d (.int .i64 rs[j].arity), .d (.int .i64 rs[j].rank)])
  (hr0 : 0 < rs.length) (hr1 : rs.length ≤ 3) (hrm : ∀ j (h : j < rs.length), RelM j rs[j]) (hvs : ∀ v ∈ vs, ∃ p ∈ ps, v ∈ p.vars) (hvl : vs.length ≤ 4) (hal : as.length ≤ 9) (hi : i < nb) (hnb : nb ≤ 1000) (hc : c ≤ 300000)
  (w_len : E.length = 171) (w_0 : E.getD 0 .undef = .ptr k 0) (w_7 : E.getD 7 .undef = .ptr (z + 1) 0) (w_11 : E.getD 11 .undef = .ptr pc 0) (w_12 : E.getD 12 .undef = xv) (w_115 : E.getD 115 .undef = .d (.int .i64 (nb : Nat))) (w_116 : E.getD 116 .undef = .d (.int .i64 (i : Nat)))
  (h : BodyS k pc n0 bs sO c rel xw xv xb ps vs as s nx lw)
  (hQ : ∀ e st xb' as', e.length = 171 → (∀ l, (l < 16 ∨ 18 ≤ l) → l < 116 → e.getD l .undef = E.getD l .undef) → e.getD 116 .undef = .d (.int .i64 ((i + 1 : Nat) : Int)) → (∀ a ∈ as', a ∈ as ∨ y0k rs ps a) → as'.length ≤ as.length + 1 → BodyS k pc n0 bs sO (c + 4) rel xw xv xb' ps vs as' st.s st.next st.low → nx ≤ st.next → Q .nrm e st) :
  PC (z0i (z06 G) z0h none T1.q4_117 E { s := s, next := nx, low := lw }) Q .mk := by
 have hlw0 := h.lw
 have hnx0 := h.nx.1
 have hnx1 := h.nx.2
 have w_z1 : sget s (z + 1) = some (.cells [.arr kr 3 true 0 rs.length, xc]) := (h.fr _ (by omega) (by omega)).trans hz1
 unfold T1.q4_117
 simp only [hi, w_len, w_0, w_7, w_115, w_116, w_z1, ↓LA, LB, simprocAttr]
 refine z0s (z2h hb (n := rs.length) (by omega) (by omega) (by omega) (by omega) h.sk) fun v st hD => ?_
 obtain ⟨⟨r, hr, rfl⟩, hn1, hf1, hS1, hl1⟩ := hD
 obtain ⟨s1, n1, l1⟩ := st
 have hn1 : nx + 12 ≤ n1 := hn1
 have hf1 : ∀ q, q < nx + 12 → q ≠ k → sget s1 q = sget s q := hf1
 have k1 : k ≤ l1 := hl1 k (by omega) (Nat.le_refl _)
 have h1 := h.step hkp (fun q g1 g2 => hf1 q (by omega) g2) hS1 (show nx ≤ n1 by omega) k1
 have w_y1 : sget s1 (z + 1) = some (.cells [.arr kr 3 true 0 rs.length, xc]) := (hf1 _ (by omega) (by omega)).trans w_z1
 have w_y2 : sget s1 kr = some (.cells cs) := (h1.fr _ (by omega) (by omega)).trans hkr
 obtain ⟨g1, g2, g3⟩ := hat r hr
 obtain ⟨y, hy⟩ : ∃ y, y = rs[r] := ⟨_, rfl⟩
 have hym : y ∈ rs := by rw [hy]; exact List.getElem_mem hr
 have hyr : RelM r y := by rw [hy]; exact hrm r hr
 rw [← hy] at g3
 obtain ⟨ar, har⟩ : ∃ ar : Nat, y.arity = ar := ⟨y.arity.toNat, by have := hyr.2.1; omega⟩
 have har2 : ar ≤ 2 := by have := hyr.2.1; omega
 rw [har] at g3
 have hsl : V.beq (.arr kr 3 true 0 rs.length) (.arr kr 3 true 0 rs.length) = true := z43
 have w_zz : (n1 = nx + 7) = False ∧ (nx + 10 = n1 + 3) = False ∧ (n1 + 3 = nx + 10) = False := ⟨by simp; omega, by simp; omega, by simp; omega⟩
 simp only [g1, g2, g3, hxc, hsl, w_len, w_z1, w_y1, w_y2, w_zz, ↓LA, LB, simprocAttr]
 obtain ⟨N, hN⟩ : ∃ N, N = vs.length := ⟨_, rfl⟩
 have hlen : opLen false xv = some N := by rw [h1.v.len, List.length_map, hN]
 have h2 : ∀ lw', k ≤ lw' → BodyS k pc n0 bs sO (c + 1) rel xw xv xb ps vs as ((n1 + 3, Obj.cells [V.d (D.str y.name), V.nilS]) :: (nx + 10, Obj.cells [V.d (D.str y.name), V.d (D.int IntKind.i64 ar), V.d (D.int IntKind.i64 y.rank)]) :: s1) nx lw' := fun lw' hl' =>
  h.step hkp (fun q g1 g2 => by rw [z00 (by omega), z00 (by omega)]; exact hf1 q (by omega) g2) (hS1.frame (by rw [z00 (by omega), z00 (by omega)]) (Nat.le_refl _)) (Nat.le_refl _) hl'
 have h2lw : k ≤ (l1.min (nx + 10)).min (n1 + 3) := by repeat' (first | omega | refine z01 ?_ ?_)
 refine z0e (fun e0 s0 m env st => ∃ (j nxj lwj : Nat) (sj : List (Nat × Obj)) (xa : V) (us : List (List Nat)), m = ar - j ∧ (j ≤ ar) ∧ (BodyS k pc n0 bs sO (c + 1 + j) rel xw xv xb ps vs as sj nx lwj) ∧ (Gr sj false (n1 + 4) 0 nxj 1 false xa (us.map D.str)) ∧ (us.length ≤ j) ∧ ((∀ v ∈ us, v ∈ vs)) ∧ ((∀ l, (l < 16 ∨ 18 ≤ l) → l < 116 → env.getD l .undef = E.getD l .undef)) ∧ sget sj (nx + 10) = some (.cells [.d (.str y.name), .d (.int .i64 (ar : Nat)), .d (.int .i64 y.rank)]) ∧ sget sj (n1 + 3) = some (.cells [.d (.str y.name), xa]) ∧ n1 + 4 ≤ nxj ∧ k ≤ lwj ∧ env.length = 171 ∧ env.getD 132 .undef = .d (.int .i64 j) ∧ env.getD 0 .undef = .ptr k 0 ∧ env.getD 11 .undef = .ptr pc 0 ∧ env.getD 12 .undef = xv ∧ env.getD 16 .undef = .ptr (nx + 10) 0 ∧ env.getD 17 .undef = .ptr (n1 + 3) 0 ∧ env.getD 115 .undef = .d (.int .i64 (nb : Nat)) ∧ env.getD 116 .undef = .d (.int .i64 (i : Nat)) ∧ env.getD 131 .undef = .d (.int .i64 (ar : Nat)) ∧ st = { s := sj, next := nxj, low := lwj }) ?_ (ar) (by refine ⟨0, _, _, _, .nilS, [], rfl, by omega, h2 _ h2lw, Gr.nil, Nat.le_refl _, (fun v h => by simp at h), (by intro l g1 g2; simp (disch := omega) only [z0f]), ?_, ?_, (by omega), (by first | exact Nat.zero_le _ | omega | exact z01 (by omega) (by omega) | exact z01 (z01 (by omega) (by omega)) (by omega) | exact z01 (z01 (z01 (by omega) (by omega)) (by omega)) (by omega)), ?_, ?_, ?_, ?_, ?_, ?_, ?_, ?_, ?_, ?_, rfl⟩ <;> simp only [w_len, w_0, w_11, w_12, w_115, w_116, w_zz, LB, simprocAttr])
 rintro m env st ⟨j, nxj, lwj, sj, xa, us, hm, j_0, j_1, j_2, j_3, j_4, j_5, w_jc0, w_jc1, w_jb, w_jlo, w_len, w_132, w_0, w_11, w_12, w_16, w_17, w_115, w_116, w_131, rfl⟩
 have w_jN := aI (cf1 (x := nxj) (a := nx + 10) (by omega)) (cf1 (x := nxj) (a := n1 + 3) (by omega))
 have w_jS := aI (cf2 (x := nxj) (by omega) w_jc0) (cf2 (x := nxj) (by omega) w_jc1)
 have w_jZ := zf (x := nxj) (b := n1) (n := 4) (by omega) (by omega)
 have w_j_2V := aI (j_2.away (j := k) (by omega)) (aI (j_2.away (j := nx + 10) (by omega)) (j_2.away (j := n1 + 3) (by omega)))
 have w_j_2c := j_2.cell.1
 have w_j_2d := j_2.cell.2
 have w_j_2e := j_2.beq
 by_cases hj : j < ar
 ·by_cases h0 : 0 < N
  ·have hgt : ((0 : Int) < (N : Nat)) = True := eq_true (by omega)
   simp only [hj, hlen, hgt, w_len, w_132, w_0, w_12, w_17, w_131, w_jc1, ↓LA, LB, simprocAttr]
   refine z0s (z2h hb (n := N) (by omega) (by omega) (by omega) (by omega) j_1.sk) fun v st hD => ?_
   obtain ⟨⟨t, ht, rfl⟩, hn2, hf2, hS2, hl2⟩ := hD
   obtain ⟨s2, n2, l2⟩ := st
   have hn2 : nxj + 17 ≤ n2 := hn2
   have hf2 : ∀ q, q < nxj + 17 → q ≠ k → sget s2 q = sget sj q := hf2
   have hlwj := j_1.lw
   have k2 : k ≤ l2 := hl2 k hlwj (Nat.le_refl _)
   obtain ⟨kv, cv, hxv, hkv1, hkv2, hatv⟩ := y0y j_1.v (by omega)
   obtain ⟨e1, e2, e3⟩ := hatv t (by omega)
   have w_kv : sget s2 kv = some (.cells cv) := (hf2 kv (by have := hkv1.2.1; omega) (by have := hkv1.1; omega)).trans hkv2
   have w_b0 : sget s2 (nx + 10) = _ := (hf2 _ (by omega) (by omega)).trans w_jc0
   have w_b1 : sget s2 (n1 + 3) = _ := (hf2 _ (by omega) (by omega)).trans w_jc1
   have hb2 : BodyS k pc n0 bs sO (c + 1 + j + 1) rel xw xv xb ps vs as s2 nx l2 := j_1.step hkp (fun q g1 g2 => hf2 q (by omega) g2) hS2 (Nat.le_refl _) k2
   have hxa : Gr s2 false (n1 + 4) 0 nxj 1 false xa (us.map D.str) := j_2.frame fun q g1 g2 => hf2 q (by omega) (by omega)
   have hgl := z47 hxa (by omega : k ≤ n1 + 4) k2
   obtain ⟨x, hx⟩ : ∃ x, x = vs[t]'(by omega) := ⟨_, rfl⟩
   have hxm : x ∈ vs := by rw [hx]; exact List.getElem_mem _
   rw [← hx] at e3
   simp only [e1, e2, e3, w_len, w_jc1, w_jN, w_j_2e, w_kv, w_b1, ↓LA, LB, simprocAttr]
   refine z5i hxa ?_ (z0j z7o) z02 ?_ ?_ ?_ ?_ ?_ fun chc0 hc0 => ?_
   ·intro j h1 h2; simp (disch := omega) only [z00]
   ·rfl
   ·omega
   ·simp; omega
   ·simp; omega
   ·exact rfl
   simp only [z08 hj (by omega), w_len, w_132, w_17, w_jN, w_j_2V, w_b1, ↓LA, LB, simprocAttr]
   have hn3 : (us ++ [x]).map D.str = us.map D.str ++ [.str x] := by rw [List.map_append]; rfl
   exact z0c (by refine ⟨_, by omega, j + 1, _, _, _, .arr (nxj + 14) 1 false 0 ((us.map D.str).length + 1), us ++ [x], rfl, by omega, hb2.step hkp (fun q g1 g2 => by simp (disch := omega) only [z00, z03, z07 (hxa.away (j := q) (by omega))]) (hb2.sk.frame (by simp (disch := omega) only [z00, z03, z07 (hxa.away (j := k) (by omega))]) (by omega)) (Nat.le_refl _) (z01 hgl (by omega)), (by rw [hn3]; exact z5o hc0 (by intro j h1 h2 h3; simp (disch := omega) only [z00, z03, z07 h3]) (by omega) (by omega) (by omega) z02 rfl ⟨CV.str, trivial⟩), (by simp; omega), (fun v hv => (List.mem_append.1 hv).elim (j_4 v) fun hv => by rw [List.mem_singleton] at hv; subst hv; exact hxm), (by intro l g1 g2; simp (disch := omega) only [z0f]; exact j_5 l g1 g2), ?_, ?_, (by omega), (by first | exact Nat.zero_le _ | omega | exact z01 (by omega) (by omega) | exact z01 (z01 (by omega) (by omega)) (by omega) | exact z01 (z01 (z01 (by omega) (by omega)) (by omega)) (by omega)), ?_, ?_, ?_, ?_, ?_, ?_, ?_, ?_, ?_, ?_, rfl⟩ <;> simp only [w_len, w_0, w_11, w_12, w_16, w_17, w_115, w_116, w_131, w_jN, w_j_2V, w_zz, w_b0, w_b1, LB, simprocAttr])
  ·have hgt : ((0 : Int) < (N : Nat)) = False := eq_false (by omega)
   simp only [hj, hlen, hgt, z08 hj (by omega), w_len, w_132, w_12, w_131, ↓LA, LB, simprocAttr]
   exact z0c (by refine ⟨_, by omega, j + 1, _, _, _, xa, us, rfl, by omega, j_1.step hkp (fun _ _ _ => rfl) (j_1.sk.frame rfl (by omega)) (Nat.le_refl _) j_1.lw, j_2.hi (by omega), by omega, j_4, (by intro l g1 g2; simp (disch := omega) only [z0f]; exact j_5 l g1 g2), ?_, ?_, (by omega), (by first | exact Nat.zero_le _ | omega | exact z01 (by omega) (by omega) | exact z01 (z01 (by omega) (by omega)) (by omega) | exact z01 (z01 (z01 (by omega) (by omega)) (by omega)) (by omega)), ?_, ?_, ?_, ?_, ?_, ?_, ?_, ?_, ?_, ?_, rfl⟩ <;> simp only [w_len, w_0, w_11, w_12, w_16, w_17, w_115, w_116, w_131, w_jc0, w_jc1, LB, simprocAttr])
 ·have hlwj := j_1.lw
  have hxal : opLen false xa = some us.length := by rw [j_2.len, List.length_map]
  have w_pc := j_1.pcl
  have hgb := j_1.b
  have w_ae := j_2.beq
  have w_np : (nxj = pc) = False ∧ (∀ q, (nxj + q = pc) = False) ∧ (∀ o, sget (sset sj pc o) pc = some o) := ⟨by simp; omega, fun q => by simp; omega, fun o => z04 w_pc⟩
  by_cases he : us.length = ar
  ·have hee : ((us.length : Int) = (ar : Nat)) = True := eq_true (by omega)
   simp only [hj, hxal, hee, w_len, w_132, w_11, w_16, w_17, w_131, w_jc0, w_jc1, w_j_2c, w_pc, ↓LA, LB, simprocAttr]
   refine z5i hgb ?_ (z0j z9a) z02 ?_ ?_ ?_ ?_ ?_ fun chcb hcb => ?_
   ·intro j h1 h2; simp (disch := omega) only [z00]
   ·rfl
   ·omega
   ·simp; omega
   ·simp; omega
   ·simp only [List.all_cons, List.all_nil, zfv, j_2.cell.1, Bool.and_self]
   have w_bv := hgb.away (j := pc) (.inl hnx0)
   have w_bw := hgb.cell.1
   have w_bx := hgb.cell.2
   have w_wc := j_1.w.cell
   simp only [z08 hi (by omega), w_len, w_11, w_116, w_pc, w_np, w_bv, ↓LA, LB, simprocAttr]
   have en : (as ++ [(⟨y.name, us⟩ : PatT)]).map PatT.d = as.map PatT.d ++ [.agg [.str y.name, .sl (us.map D.str)]] := by rw [List.map_append]; rfl
   have gl : k ≤ z8u xb lwj := z47 hgb (by omega) hlwj
   have hfin : ∀ Z : List (Nat × Obj), (∀ q, q ≠ pc → q ≠ nxj + 10 → q ≠ nxj + 11 → Go.Lift.away xb q → sget Z q = sget sj q) → sget Z pc = some (.cells [.d (.str rel), xw, .arr (nxj + 11) 2 true 0 ((as.map PatT.d).length + 1)]) → sget Z (nxj + 11) = some (.cells (chcb ++ [.d (.str y.name), xa])) → ∀ nx' lw', nxj + 14 ≤ nx' → k ≤ lw' →
     BodyS k pc n0 bs sO (c + 4) rel xw xv (.arr (nxj + 11) 2 true 0 ((as.map PatT.d).length + 1)) ps vs (as ++ [⟨y.name, us⟩]) Z nx' lw' := fun Z hz z1 z2 nx' lw' hn' hl' => by
    have hz' : ∀ q, q < n0 → q ≠ pc → sget Z q = sget sj q := fun q h1 h2 => hz q h2 (by omega) (by omega) (hgb.away (.inl h1))
    refine ⟨j_1.sk.frame (hz' k (by omega) (by omega)) (by omega), z1, j_1.w.frame fun q g => hz' q g.2.1 (by have := g.1; omega), j_1.v.frame fun q g => hz' q g.2.1 (by have := g.1; omega), ?_, fun q g1 g2 => (hz' q (by omega) (by omega)).trans (j_1.fr q g1 g2), hl', hnx0, by omega⟩
    rw [en]
    refine z5p hcb (fun q g1 g2 => hz q (by have := g1.1; omega) (by have := g1.2; omega) (by have := g1.2; omega) g2) (fun q g => ⟨g.1, by have := g.2; omega⟩) ⟨by omega, by omega⟩ (fun g => by have := g.2; omega) z2 rfl ⟨CQ.str, ?_, trivial⟩
    exact CQ.mono (fun q g => ⟨⟨by have := g.1; omega, by have := g.2; omega⟩, by have := g.2; omega⟩) (CQ.frame (fun q g => hz q (by have := g.1; omega) (by have := g.2; omega) (by have := g.2; omega) (hgb.away (.inr (by have := g.1; omega)))) (j_2.cv (by omega) (z0j z7o)))
   refine hQ _ _ _ (as ++ [⟨y.name, us⟩]) (by simp only [w_len, LB, simprocAttr]) (by intro l g1 g2; simp (disch := omega) only [z0f]; exact j_5 l g1 g2) (by simp only [w_len, LB, simprocAttr]) (fun a ha => (List.mem_append.1 ha).imp id fun ha => by rw [List.mem_singleton] at ha; subst ha; exact ⟨⟨y, hym, rfl, by show (us.length : Int) = y.arity; omega⟩, fun v hv => hvs v (j_4 v hv)⟩) (by simp) (hfin _ (fun q g1 g2 g3 g4 => by simp (disch := omega) only [z00, z03, z07 g4]) ?_ ?_ _ _ (by show nxj + 14 ≤ nxj + _; omega) (by repeat' (first | omega | refine z01 ?_ ?_))) (by show nx ≤ nxj + _; omega)
   ·simp only [w_pc, w_np, w_bv, LB, simprocAttr]
   ·simp (disch := omega) only [z02]
  ·have hee : ((us.length : Int) = (ar : Nat)) = False := eq_false (by omega)
   simp only [hj, hxal, hee, z08 hi (by omega), w_len, w_132, w_16, w_17, w_116, w_131, w_jc0, w_jc1, ↓LA, LB, simprocAttr]
   exact hQ _ _ xb as (by simp only [w_len, LB, simprocAttr]) (by intro l g1 g2; simp (disch := omega) only [z0f]; exact j_5 l g1 g2) (by simp only [w_len, LB, simprocAttr]) (fun a ha => .inl ha) (by omega) (j_1.step hkp (fun _ _ _ => rfl) (j_1.sk.frame rfl (by omega)) (by show nx ≤ nxj + _; omega) hlwj) (by show nx ≤ nxj + _; omega)
end Go.Lift.K
namespace Go.Lift.K
open Go Go.Lift
set_option maxRecDepth 100000
theorem HeadS.c5 {k pc c i nx lw : Nat} {bs : List Int} {s sO : List (Nat × Obj)} {rel : List Nat} {xw xv : V} {ps : List PatT} {vs : List (List Nat)} (h : HeadS k pc bs sO (c + 1 + 5 * i + 5) rel xw xv ps vs s nx lw) : HeadS k pc bs sO (c + 1 + 5 * (i + 1)) rel xw xv ps vs s nx lw := ⟨h.sk.frame rfl (by omega), h.pcl, h.w, h.v, h.fr, h.lw, h.nx⟩
theorem zhx : ∀ a : ClauseT, Elt 3 true a.d := fun a => zcf
set_option maxHeartbeats 4000000 in
theorem zrr {bs : List Int} (hb : LOk bs) {k z hh m0 c nx lw : Nat} {s : List (Nat × Obj)} {E : List V} {xr xc : V} {S : Nat → Prop} {rs : List RelT} {cls : List ClauseT} {Q : Ex → List V → St → Prop}
  (hkz : k < z) (hzm : z + 2 ≤ m0) (hhm : z + 2 ≤ hh ∧ hh < m0) (hmn : m0 ≤ nx) (hc : c ≤ 200000) (hlw : k ≤ lw) (hSk : Sk s k bs c) (hz1 : sget s (z + 1) = some (.cells [xr, xc])) (hhd : sget s hh = some (.cells hdsC))
  (hxr : GP s false S 0 3 true xr (rs.map RelT.d)) (hS : ∀ q, S q → z + 2 ≤ q ∧ q < m0) (hxc : Gr s false m0 2 nx 3 true xc (cls.map ClauseT.d)) (hcl : cls.length ≤ 10)
  (hr0 : 0 < rs.length) (hr1 : rs.length ≤ 3) (hrm : ∀ j (h : j < rs.length), RelM j rs[j])
  (w_len : E.length = 171) (w_0 : E.getD 0 .undef = .ptr k 0) (w_7 : E.getD 7 .undef = .ptr (z + 1) 0) (w_9 : E.getD 9 .undef = .ptr hh 0)
  (hQ : ∀ e st xc' cl, e.length = 171 → (∀ l, (l < 10 ∨ 41 ≤ l) → l < 49 → e.getD l .undef = E.getD l .undef) → zen rs cl → sget st.s (z + 1) = some (.cells [xr, xc']) → Gr st.s false m0 2 st.next 3 true xc' ((cls ++ [cl]).map ClauseT.d) → (∀ q, q < m0 → q ≠ k → q ≠ z + 1 → sget st.s q = sget s q) → Sk st.s k bs (c + 60) → nx ≤ st.next → k ≤ st.low → Q .nrm e st) :
  PC (z0i (z06 G) z0h none T1.q4_49 E { s := s, next := nx, low := lw }) Q .mk := by
 obtain ⟨kr, cs, rfl, hkS, hkr, hat⟩ := y15 hxr hr0
 obtain ⟨q1, q2⟩ := hS _ hkS
 obtain ⟨R, hR⟩ : ∃ R : IC, R = T1.q4_64 := ⟨_, rfl⟩
 obtain ⟨R', hR'⟩ : ∃ R : IC, R = T1.q4_117 := ⟨_, rfl⟩
 have w_z1 := hz1
 have hxcb := hxc.beq
 have hsl : V.beq (.arr kr 3 true 0 rs.length) (.arr kr 3 true 0 rs.length) = true := z43
 unfold T1.q4_49
 rw [← hR, ← hR']
 simp only [w_len, w_0, w_7, w_z1, ↓LA, LB, simprocAttr]
 refine z0s (z2h hb (n := rs.length) (by omega) (by omega) (by omega) (by omega) hSk) fun v st hD => ?_
 obtain ⟨⟨r, hr, rfl⟩, hn1, hf1, hS1, hl1⟩ := hD
 obtain ⟨s1, n1, l1⟩ := st
 have hn1 : nx + 11 ≤ n1 := hn1
 have hf1 : ∀ q, q < nx + 11 → q ≠ k → sget s1 q = sget s q := hf1
 have k1 : k ≤ l1 := hl1 k (by omega) (Nat.le_refl _)
 have w_y1 : sget s1 (z + 1) = some (.cells [.arr kr 3 true 0 rs.length, xc]) := (hf1 _ (by omega) (by omega)).trans w_z1
 have w_y2 : sget s1 kr = some (.cells cs) := (hf1 _ (by omega) (by omega)).trans hkr
 obtain ⟨g1, g2, g3⟩ := hat r hr
 obtain ⟨y, hy⟩ : ∃ y, y = rs[r] := ⟨_, rfl⟩
 have hym : y ∈ rs := by rw [hy]; exact List.getElem_mem hr
 have hyr : RelM r y := by rw [hy]; exact hrm r hr
 rw [← hy] at g3
 obtain ⟨ar, har⟩ : ∃ ar : Nat, y.arity = ar := ⟨y.arity.toNat, by have := hyr.2.1; omega⟩
 have har2 : ar ≤ 2 := by have := hyr.2.1; omega
 rw [har] at g3
 have w_zz : (n1 = nx + 6) = False ∧ (nx + 9 = n1 + 3) = False ∧ (n1 + 3 = nx + 9) = False := ⟨by simp; omega, by simp; omega, by simp; omega⟩
 simp only [g1, g2, g3, hxcb, hsl, w_len, w_z1, w_y1, w_y2, w_zz, ↓LA, LB, simprocAttr]
 obtain ⟨sO, hsO⟩ : ∃ sO, sO = (n1 + 3, Obj.cells [V.d (D.str y.name), V.nilS, V.nilS]) :: (nx + 9, Obj.cells [V.d (D.str y.name), V.d (D.int IntKind.i64 ar), V.d (D.int IntKind.i64 y.rank)]) :: s1 := ⟨_, rfl⟩
 have o1 : ∀ q, q < nx → q ≠ k → sget sO q = sget s q := fun q g1 g2 => by rw [hsO, z00 (by omega), z00 (by omega)]; exact hf1 q (by omega) g2
 have o2 : sget sO (n1 + 3) = some (.cells [.d (.str y.name), .nilS, .nilS]) := by rw [hsO]; exact z02
 have h2lw : k ≤ (l1.min (nx + 9)).min (n1 + 3) := by repeat' (first | omega | refine z01 ?_ ?_)
 rw [← hsO]
 refine z0e (fun e0 s0 m env st => ∃ (i nxi lwi : Nat) (si : List (Nat × Obj)) (xw xv : V) (ps : List PatT) (vs : List (List Nat)), m = ar - i ∧ (i ≤ ar) ∧ (HeadS k (n1 + 3) bs sO (c + 1 + 5 * i) y.name xw xv ps vs si nxi lwi) ∧ (ps.length = i) ∧ (vs.length ≤ 2 * i) ∧ ((∀ p ∈ ps, PatM p)) ∧ ((∀ v ∈ vs, ∃ p ∈ ps, v ∈ p.vars)) ∧ ((∀ l, (l < 10 ∨ 41 ≤ l) → l < 49 → env.getD l .undef = E.getD l .undef)) ∧ n1 + 4 ≤ nxi ∧ k ≤ lwi ∧ env.length = 171 ∧ env.getD 63 .undef = .d (.int .i64 i) ∧ env.getD 0 .undef = .ptr k 0 ∧ env.getD 7 .undef = .ptr (z + 1) 0 ∧ env.getD 9 .undef = .ptr hh 0 ∧ env.getD 11 .undef = .ptr (n1 + 3) 0 ∧ env.getD 12 .undef = xv ∧ env.getD 62 .undef = .d (.int .i64 (ar : Nat)) ∧ st = { s := si, next := nxi, low := lwi }) ?_ (ar) (by refine ⟨0, _, _, _, .nilS, .nilS, [], [], rfl, by omega, ⟨hS1.frame (by rw [hsO, z00 (by omega), z00 (by omega)]) (Nat.le_refl _), o2, GP.nil, GP.nil, fun _ _ _ => rfl, h2lw, by show n1 + 3 < n1 + _; omega⟩, rfl, Nat.zero_le _, (fun p h => by simp at h), (fun p h => by simp at h), (by intro l g1 g2; simp (disch := omega) only [z0f]), (by omega), (by first | exact Nat.zero_le _ | omega | exact z01 (by omega) (by omega) | exact z01 (z01 (by omega) (by omega)) (by omega) | exact z01 (z01 (z01 (by omega) (by omega)) (by omega)) (by omega)), ?_, ?_, ?_, ?_, ?_, ?_, ?_, ?_, rfl⟩ <;> simp only [w_len, w_0, w_7, w_9, LB, simprocAttr])
 rintro m env st ⟨i, nxi, lwi, si, xw, xv, ps, vs, hm, i_0, i_1, i_2, i_3, i_4, i_5, i_6, w_ib, w_ilo, w_len, w_63, w_0, w_7, w_9, w_11, w_12, w_62, rfl⟩
 have w_iZ := zf (x := nxi) (b := n1) (n := 4) (by omega) (by omega)
 have hlwi := i_1.lw
 have hni := i_1.nx
 have hvm : ∀ v ∈ vs, VarM v := fun v hv => by obtain ⟨p, hp, hvp⟩ := i_5 v hv; exact (i_4 p hp).2.2.2 v hvp
 by_cases hi : i < ar
 ·rw [hR]
  refine y1g hb (hh := hh) (by omega) (by omega) (by omega) (by rw [o1 _ (by omega) (by omega)]; exact hhd) (by omega) (by omega) hvm (by omega) hi (by omega) w_len w_0 w_9 w_11 w_12 w_62 w_63 i_1 ?_
  intro e st xw' xv' p w_len hE w_12 w_63 hp hH hn2
  obtain ⟨s2, n2, l2⟩ := st
  have hn2 : nxi ≤ n2 := hn2
  have hH : HeadS k (n1 + 3) bs sO (c + 1 + 5 * i + 5) y.name xw' xv' (ps ++ [p]) (vs ++ p.vars) s2 n2 l2 := hH
  have hl2 := hH.lw
  have hpl : p.vars.length ≤ 2 := by
   rcases hp.1 with ⟨_, h⟩ | ⟨_, h⟩ <;> omega
  have w_0 : e.getD 0 .undef = _ := (hE 0 (.inl (by omega)) (by omega)).trans w_0
  have w_7 : e.getD 7 .undef = _ := (hE 7 (.inl (by omega)) (by omega)).trans w_7
  have w_9 : e.getD 9 .undef = _ := (hE 9 (.inl (by omega)) (by omega)).trans w_9
  have w_11 : e.getD 11 .undef = _ := (hE 11 (.inl (by omega)) (by omega)).trans w_11
  have w_62 : e.getD 62 .undef = _ := (hE 62 (.inr (by omega)) (by omega)).trans w_62
  simp only [↓LA, simprocAttr]
  exact z0c (by refine ⟨_, by omega, i + 1, _, _, _, xw', xv', ps ++ [p], vs ++ p.vars, rfl, by omega, hH.c5, by simp [i_2], (by rw [List.length_append]; omega), (fun q hq => (List.mem_append.1 hq).elim (i_4 q) fun hq => by rw [List.mem_singleton] at hq; subst hq; exact hp), (fun v hv => (List.mem_append.1 hv).elim (fun hv => by obtain ⟨q, a, b⟩ := i_5 v hv; exact ⟨q, List.mem_append_left _ a, b⟩) fun hv => ⟨p, by simp, hv⟩), (by intro l g1 g2; rw [hE l (by omega) (by omega)]; exact i_6 l g1 g2), (by omega), (by first | exact Nat.zero_le _ | omega | exact z01 (by omega) (by omega) | exact z01 (z01 (by omega) (by omega)) (by omega) | exact z01 (z01 (z01 (by omega) (by omega)) (by omega)) (by omega)), ?_, ?_, ?_, ?_, ?_, ?_, ?_, ?_, rfl⟩ <;> simp only [w_len, w_63, w_0, w_7, w_9, w_11, w_12, w_62, simprocAttr])
 ·have hia : i = ar := by omega
  rw [hR]
  simp only [hi, w_len, w_63, w_0, w_62, ↓LA, LB, simprocAttr]
  refine z0s (z2h hb (n := 3) (by omega) (by omega) (by omega) (by omega) i_1.sk) fun v st hD => ?_
  obtain ⟨⟨nb, hnb, rfl⟩, hn3, hf3, hS3, hl3⟩ := hD
  obtain ⟨s3, n3, l3⟩ := st
  have hn3 : nxi + 4 ≤ n3 := hn3
  have hf3 : ∀ q, q < nxi + 4 → q ≠ k → sget s3 q = sget si q := hf3
  have k3 : k ≤ l3 := hl3 k hlwi (Nat.le_refl _)
  have hB0 : BodyS k (n1 + 3) nxi bs sO (c + 20) y.name xw xv .nilS ps vs [] s3 n3 l3 := i_1.toBody.step (by omega) (fun q g1 g2 => hf3 q (by omega) g2) (hS3.frame rfl (by omega)) (by omega) k3
  simp only [↓LA, LB, simprocAttr]
  refine z0e (fun e0 s0 m env st => ∃ (j nxj lwj : Nat) (sj : List (Nat × Obj)) (xb : V) (as : List PatT), m = nb - j ∧ (j ≤ nb) ∧ (BodyS k (n1 + 3) nxi bs sO (c + 20 + 4 * j) y.name xw xv xb ps vs as sj nxj lwj) ∧ (as.length ≤ j) ∧ ((∀ a ∈ as, y0k rs ps a)) ∧ ((∀ l, (l < 10 ∨ 41 ≤ l) → l < 49 → env.getD l .undef = E.getD l .undef)) ∧ n3 ≤ nxj ∧ k ≤ lwj ∧ env.length = 171 ∧ env.getD 116 .undef = .d (.int .i64 j) ∧ env.getD 0 .undef = .ptr k 0 ∧ env.getD 7 .undef = .ptr (z + 1) 0 ∧ env.getD 11 .undef = .ptr (n1 + 3) 0 ∧ env.getD 12 .undef = xv ∧ env.getD 115 .undef = .d (.int .i64 (nb : Nat)) ∧ st = { s := sj, next := nxj, low := lwj }) ?_ (nb) (by refine ⟨0, _, _, _, .nilS, [], rfl, by omega, hB0, Nat.le_refl _, (fun p h => by simp at h), (by intro l g1 g2; simp (disch := omega) only [z0f]; exact i_6 l g1 g2), (by omega), (by first | exact Nat.zero_le _ | omega | exact z01 (by omega) (by omega) | exact z01 (z01 (by omega) (by omega)) (by omega) | exact z01 (z01 (z01 (by omega) (by omega)) (by omega)) (by omega)), ?_, ?_, ?_, ?_, ?_, ?_, ?_, rfl⟩ <;> simp only [w_len, w_0, w_7, w_11, w_12, LB, simprocAttr])
  rintro m env st ⟨j, nxj, lwj, sj, xb, as, hm, j_0, j_1, j_2, j_3, j_4, w_jb, w_jlo, w_len, w_116, w_0, w_7, w_11, w_12, w_115, rfl⟩
  have hlwj := j_1.lw
  have hnj := j_1.nx.2
  by_cases hj : j < nb
  ·rw [hR']
   refine y09 hb (z := z) (kr := kr) (xc := xc) (by omega) (by omega) (by rw [o1 _ (by omega) (by omega)]; exact hz1) (by rw [o1 _ (by omega) (by omega)]; exact hkr) hxcb hat hr0 hr1 hrm i_5 (by omega) (by omega) hj (by omega) (by omega) w_len w_0 w_7 w_11 w_12 w_115 w_116 j_1 ?_
   intro e st xb' as' w_len hE w_116 has hasl hB hn4
   obtain ⟨s4, n4, l4⟩ := st
   have hn4 : nxj ≤ n4 := hn4
   have hB : BodyS k (n1 + 3) nxi bs sO (c + 20 + 4 * j + 4) y.name xw xv xb' ps vs as' s4 n4 l4 := hB
   have hl4 := hB.lw
   have w_0 : e.getD 0 .undef = _ := (hE 0 (.inl (by omega)) (by omega)).trans w_0
   have w_7 : e.getD 7 .undef = _ := (hE 7 (.inl (by omega)) (by omega)).trans w_7
   have w_11 : e.getD 11 .undef = _ := (hE 11 (.inl (by omega)) (by omega)).trans w_11
   have w_12 : e.getD 12 .undef = _ := (hE 12 (.inl (by omega)) (by omega)).trans w_12
   have w_115 : e.getD 115 .undef = _ := (hE 115 (.inr (by omega)) (by omega)).trans w_115
   simp only [↓LA, simprocAttr]
   exact z0c (by refine ⟨_, by omega, j + 1, _, _, _, xb', as', rfl, by omega, hB.step (by omega) (fun _ _ _ => rfl) (hB.sk.frame rfl (by omega)) (Nat.le_refl _) hl4, by omega, (fun a ha => (has a ha).elim (j_3 a) id), (by intro l g1 g2; rw [hE l (by omega) (by omega)]; exact j_4 l g1 g2), (by omega), (by first | exact Nat.zero_le _ | omega | exact z01 (by omega) (by omega) | exact z01 (z01 (by omega) (by omega)) (by omega) | exact z01 (z01 (z01 (by omega) (by omega)) (by omega)) (by omega)), ?_, ?_, ?_, ?_, ?_, ?_, ?_, rfl⟩ <;> simp only [w_len, w_116, w_0, w_7, w_11, w_12, w_115, simprocAttr])
  ·obtain ⟨hsk, w_pc, hw, hv, hbb, hfr, _, _⟩ := j_1
   have hb2 := hbb
   have w_x1 : sget sj (z + 1) = some (.cells [.arr kr 3 true 0 rs.length, xc]) := by rw [hfr _ (by omega) (by omega), o1 _ (by omega) (by omega)]; exact hz1
   have hxj : Gr sj false m0 2 nx 3 true xc (cls.map ClauseT.d) := hxc.frame fun q g1 g2 => by rw [hfr _ (by omega) (by omega), o1 _ g2 (by omega)]
   have w_hxjV := aI (hxj.away (j := k) (by omega)) (aI (hxj.away (j := z + 1) (by omega)) (hxj.away (j := n1 + 3) (by omega)))
   have w_hxjc := hxj.cell.1
   have w_hxjd := hxj.cell.2
   have w_hxje := hxj.beq
   have w_c1 := hw.cell
   have w_c2 := hbb.cell
   have w_c3 := hw.beq
   have w_c4 := hbb.beq
   have w_np : (nxj = n1 + 3) = False ∧ (∀ q, (nxj + q = n1 + 3) = False) ∧ (nxj = z + 1) = False ∧ (∀ q, (nxj + q = z + 1) = False) ∧ (∀ o, sget (sset sj (z + 1) o) (z + 1) = some o) := ⟨by simp; omega, fun q => by simp; omega, by simp; omega, fun q => by simp; omega, fun o => z04 w_x1⟩
   rw [hR']
   simp only [hj, w_len, w_116, w_7, w_11, w_115, w_pc, w_x1, w_c1, w_c2, ↓LA, LB, simprocAttr]
   refine z5i hxj ?_ (z0j zhx) z02 ?_ ?_ ?_ ?_ ?_ fun chcx hcx => ?_
   ·intro j h1 h2; simp (disch := omega) only [z00]
   ·rfl
   ·omega
   ·simp; omega
   ·simp; omega
   ·simp only [List.all_cons, List.all_nil, zfv, w_c1, w_c2, Bool.and_self]
   simp only [w_len, w_7, w_hxjV, w_x1, w_np, ↓LA, LB, simprocAttr]
   have en : (cls ++ [(⟨y.name, ps, as⟩ : ClauseT)]).map ClauseT.d = cls.map ClauseT.d ++ [.agg [.str y.name, .sl (ps.map PatT.d), .sl (as.map PatT.d)]] := by rw [List.map_append]; rfl
   have gl : k ≤ z8u xc lwj := z47 hxj (by omega) hlwj
   have hfin : ∀ Z : List (Nat × Obj), (∀ q, q ≠ z + 1 → q ≠ nxj + 4 → q ≠ nxj + 5 → Go.Lift.away xc q → sget Z q = sget sj q) → sget Z (nxj + 5) = some (.cells (chcx ++ [.d (.str y.name), xw, xb])) → ∀ nx', nxj + 8 ≤ nx' →
     Gr Z false m0 2 nx' 3 true (.arr (nxj + 5) 3 true 0 ((cls.map ClauseT.d).length + 1)) ((cls ++ [(⟨y.name, ps, as⟩ : ClauseT)]).map ClauseT.d) := fun Z hz z2 nx' hn' => by
    rw [en]
    show GP Z false (Iv m0 nx') 2 3 true _ _
    refine z5p hcx (fun q g1 g2 => hz q (by have := g1.1; omega) (by have := g1.2; omega) (by have := g1.2; omega) g2) (fun q g => ⟨g.1, by have := g.2; omega⟩) ⟨by omega, by omega⟩ (fun g => by have := g.2; omega) z2 rfl ⟨CQ.str, ?_, ?_, trivial⟩
    ·exact CQ.mono (fun q g => ⟨⟨by have := g.1; omega, by have := g.2.1; omega⟩, by have := g.2.1; omega⟩) (CQ.frame (fun q g => hz q (by have := g.1; omega) (by have := g.2.1; omega) (by have := g.2.1; omega) (hxj.away (.inr (by have := g.1; omega)))) (hw.cv (by omega) (z0j z9a)))
    ·exact CQ.mono (fun q g => ⟨⟨by have := g.1; omega, by have := g.2; omega⟩, by have := g.2; omega⟩) (CQ.frame (fun q g => hz q (by have := g.1; omega) (by have := g.2; omega) (by have := g.2; omega) (hxj.away (.inr (by have := g.1; omega)))) (hb2.cv (by omega) (z0j z9a)))
   have hcm : zen rs ⟨y.name, ps, as⟩ := ⟨⟨y, hym, rfl, by show (ps.length : Int) = y.arity; omega⟩, i_4, by show as.length ≤ 2; omega, j_3⟩
   refine hQ _ _ _ _ (by simp only [w_len, LB, simprocAttr]) (by intro l g1 g2; simp (disch := omega) only [z0f]; exact j_4 l g1 g2) hcm ?_ (hfin _ (fun q g1 g2 g3 g4 => by simp (disch := omega) only [z00, z03, z07 g4]) ?_ _ (by show nxj + 8 ≤ nxj + _; omega)) (fun q g1 g2 g3 => ?_) (hsk.frame ?_ (by omega)) (by show nx ≤ nxj + _; omega) (by repeat' (first | omega | refine z01 ?_ ?_))
   ·simp only [w_hxjV, w_x1, w_np, LB, simprocAttr]
   ·simp (disch := omega) only [z02]
   ·simp (disch := omega) only [z00, z03, z07 (hxj.away (j := q) (by omega))]
    rw [hfr _ (by omega) g2, o1 _ (by omega) g2]
   ·simp (disch := omega) only [z00, z03, z07 (hxj.away (j := k) (by omega))]
end Go.Lift.K
namespace Go.Lift.K
open Go Go.Lift
set_option maxRecDepth 100000
set_option maxHeartbeats 4000000 in
theorem zpj {bs : List Int} (hb : LOk bs) {k : Nat} : zl6 bs k := by
 intro E s s0 nx lw lw0 z c xr rs w_len w_0 w_6 w_7 w_z w_z1 hkz hzn hxr hr0 hr1 hrm hSk hc hlw hfr
 obtain ⟨R, hR⟩ : ∃ R : IC, R = T1.q4_49 := ⟨_, rfl⟩
 unfold T1.q4_41
 rw [← hR]
 simp only [w_len, w_0, ↓LA, LB, simprocAttr]
 refine z0s (z67 (lo := 1) (hi := 8) hb (by omega) (by omega) (by omega) (by omega) (hSk.frame (by rw [z00 (by omega)]) (Nat.le_refl _))) fun v1 st1 hR1 => ?_
 obtain ⟨⟨n, hna, hnb, rfl⟩, hn1, hf1, hS1, hl1⟩ := hR1
 obtain ⟨s1, n1, l1⟩ := st1
 have hn1 : nx + 9 ≤ n1 := hn1
 have o0 : ∀ q, q < nx + 4 → q ≠ k → sget s1 q = sget s q := fun q g1 g2 => (hf1 q (by omega) g2).trans (z00 (by omega))
 have ohh : sget s1 (nx + 4) = some (.cells hdsC) := (hf1 _ (by omega) (by omega)).trans z02
 have k1 : k ≤ l1 := hl1 k (z01 hlw (by omega)) (Nat.le_refl _)
 have w_a0 := (o0 z (by omega) (by omega)).trans w_z
 have w_a1 := (o0 (z + 1) (by omega) (by omega)).trans w_z1
 have hS1 : Sk s1 k bs (c + 8) := hS1
 simp only [↓LA, LB, simprocAttr]
 refine z0e (fun e0 s0 m env st => ∃ (i nxi lwi : Nat) (si : List (Nat × Obj)) (xc : V) (cls : List ClauseT), m = n - i ∧ (i ≤ n) ∧ (Sk si k bs (c + 8 + 60 * i)) ∧ (Gr si false n1 2 nxi 3 true xc (cls.map ClauseT.d)) ∧ (cls.length = i) ∧ ((∀ x ∈ cls, zen rs x)) ∧ ((∀ q, q < n1 → q ≠ k → q ≠ z + 1 → sget si q = sget s1 q)) ∧ sget si (z) = some (.cells [.nilS, .nilS]) ∧ sget si (z + 1) = some (.cells [xr, xc]) ∧ n1 ≤ nxi ∧ k ≤ lwi ∧ env.length = 171 ∧ env.getD 47 .undef = .d (.int .i64 i) ∧ env.getD 0 .undef = .ptr k 0 ∧ env.getD 6 .undef = .ptr z 0 ∧ env.getD 7 .undef = .ptr (z + 1) 0 ∧ env.getD 9 .undef = .ptr (nx + 4) 0 ∧ env.getD 46 .undef = .d (.int .i64 (n : Nat)) ∧ st = { s := si, next := nxi, low := lwi }) ?_ (n) (by refine ⟨0, _, _, _, .nilS, [], rfl, by omega, hS1, Gr.nil, rfl, (fun p h => by simp at h), (fun q g1 g2 g3 => rfl), ?_, ?_, (by omega), (by first | exact Nat.zero_le _ | omega | exact z01 (by omega) (by omega) | exact z01 (z01 (by omega) (by omega)) (by omega) | exact z01 (z01 (z01 (by omega) (by omega)) (by omega)) (by omega)), ?_, ?_, ?_, ?_, ?_, ?_, ?_, rfl⟩ <;> simp only [w_len, w_0, w_6, w_7, w_a0, w_a1, LB, simprocAttr])
 rintro m env st ⟨i, nxi, lwi, si, xc, cls, hm, i_0, i_1, i_2, i_3, i_4, i_5, w_ic0, w_ic1, w_ib, w_ilo, w_len, w_47, w_0, w_6, w_7, w_9, w_46, rfl⟩
 have w_iN := aI (cf1 (x := nxi) (a := z) (by omega)) (cf1 (x := nxi) (a := z + 1) (by omega))
 have w_iS := aI (cf2 (x := nxi) (by omega) w_ic0) (cf2 (x := nxi) (by omega) w_ic1)
 by_cases hi : i < n
 ·simp only [hi, w_len, w_47, w_46, ↓LA, LB, simprocAttr]
  rw [hR]
  refine zrr hb (hh := nx + 4) (m0 := n1) (S := Iv (z + 2) nx) (rs := rs) (cls := cls) (xr := xr) (xc := xc) hkz (by omega) (by omega) (by omega) (by omega) w_ilo i_1 w_ic1 ((i_5 _ (by omega) (by omega) (by omega)).trans ohh) (GP.frame (fun q g => (i_5 q (by have := g.2; omega) (by have := g.1; omega) (by have := g.1; omega)).trans (o0 q (by have := g.2; omega) (by have := g.1; omega))) hxr) (fun q g => ⟨g.1, by have := g.2; omega⟩) (Gr.hi i_2 (Nat.le_add_right _ _)) (by omega) (by omega) hr1 hrm (by simp only [w_len, LB, simprocAttr]) (by simp only [w_0, LB, simprocAttr]) (by simp only [w_7, LB, simprocAttr]) (by simp only [w_9, LB, simprocAttr]) ?_
  intro e st xc' cl w_len hE hcl h1 h2 h3 h4 h5 h6
  obtain ⟨s2, n2, l2⟩ := st
  have h5 : nxi ≤ n2 := by first | exact h5 | exact Nat.le_trans (Nat.le_add_right _ _) h5
  have h6 : k ≤ l2 := h6
  have w_47 : e.getD 47 .undef = .d (.int .i64 i) := (hE 47 (.inr (by omega)) (by omega)).trans (by simp only [w_47, LB, simprocAttr])
  have w_0 : e.getD 0 .undef = .ptr k 0 := (hE 0 (.inl (by omega)) (by omega)).trans (by simp only [w_0, LB, simprocAttr])
  have w_6 : e.getD 6 .undef = .ptr z 0 := (hE 6 (.inl (by omega)) (by omega)).trans (by simp only [w_6, LB, simprocAttr])
  have w_7 : e.getD 7 .undef = .ptr (z + 1) 0 := (hE 7 (.inl (by omega)) (by omega)).trans (by simp only [w_7, LB, simprocAttr])
  have w_9 : e.getD 9 .undef = .ptr (nx + 4) 0 := (hE 9 (.inl (by omega)) (by omega)).trans (by simp only [w_9, LB, simprocAttr])
  have w_46 : e.getD 46 .undef = .d (.int .i64 (n : Nat)) := (hE 46 (.inr (by omega)) (by omega)).trans (by simp only [w_46, LB, simprocAttr])
  have w_p0 : sget s2 z = some (.cells [.nilS, .nilS]) := (h3 z (by omega) (by omega) (by omega)).trans w_ic0
  have w_p1 : sget s2 (z + 1) = some (.cells [xr, xc']) := h1
  simp only [z08 hi (by omega), w_len, w_47, ↓LA, LB, simprocAttr]
  exact z0c (by refine ⟨_, by omega, i + 1, _, _, _, xc', cls ++ [cl], rfl, by omega, h4.frame rfl (by omega), Gr.hi h2 (Nat.le_add_right _ _), by simp [i_3], (fun x hx => (List.mem_append.1 hx).elim (i_4 x) fun hx => by rw [List.mem_singleton] at hx; subst hx; exact hcl), (fun q g1 g2 g3 => (h3 q g1 g2 g3).trans (i_5 q g1 g2 g3)), ?_, ?_, (by omega), (by first | exact Nat.zero_le _ | omega | exact z01 (by omega) (by omega) | exact z01 (z01 (by omega) (by omega)) (by omega) | exact z01 (z01 (z01 (by omega) (by omega)) (by omega)) (by omega)), ?_, ?_, ?_, ?_, ?_, ?_, ?_, rfl⟩ <;> simp only [w_len, w_0, w_6, w_7, w_9, w_46, w_p0, w_p1, LB, simprocAttr])
 ·have hxr2 : GP si false (Iv (z + 2) nx) 0 3 true xr (rs.map RelT.d) := GP.frame (fun q g => (i_5 q (by have := g.2; omega) (by have := g.1; omega) (by have := g.1; omega)).trans (o0 q (by have := g.2; omega) (by have := g.1; omega))) hxr
  have w_c1 := hxr2.cell
  have w_c2 := i_2.cell
  have w_zs : ∀ o, sget (sset si z o) z = some o := fun o => z04 w_ic0
  simp only [hi, w_len, w_47, w_6, w_7, w_46, w_ic0, w_ic1, w_iS, w_c1, w_c2, ↓LA, LB, simprocAttr]
  refine ⟨by show z ≤ nxi + _; omega, fun q g1 g2 => ?_, i_1.frame (z03 (by omega)) (by omega), fun m g1 g2 => by repeat' (first | omega | refine z01 ?_ ?_), ⟨rs, cls⟩, xr, xc, rfl, ⟨hr0, hr1, hrm, by show cls.length ≤ 8; omega, i_4⟩, ?_, ?_⟩
  ·show sget (sset si z _) q = _
   rw [z03 (by omega), i_5 q (by omega) g2 (by omega), o0 q (by omega) g2]
   exact hfr q g1 g2
  ·exact (hxr2.frame fun q g => z03 (by have := g.1; omega)).mono fun q g => ⟨by have := g.1; omega, by have := g.2; show q < nxi + _; omega⟩
  ·exact GP.mono (fun q g => ⟨by have := g.1; omega, by have := g.2; show q < nxi + _; omega⟩) (GP.frame (fun q g => z03 (by have := g.1; omega)) i_2)
end Go.Lift.K
