/- Part B7 of the proof. -/
import Derived.Test.YtedmfhgagnfbnaaGreatDoorB6
import Derived.Test.YtedmfhgagnfbnaaGreatDoorA7
set_option linter.all false
namespace Go.Lift.K
open Go Go.Lift
set_option maxRecDepth 100000
set_option maxHeartbeats 4000000 in
theorem peq_ok {names : List (List Nat)} {kids : List Int} (hs : SsOk names) (hk : LOk kids) {s : List (Nat × Obj)} {n0 lw : Nat} : PostV (callW G (.fn 18 [] []) [.d (.sl (names.map D.str)), .d (.sl (kids.map (D.int .i64)))] { s := s, next := n0, low := lw }) (LiveRes s n0 (specEq names kids).1 (specEq names kids).2) := by
  have hsl := hs.1
  unfold LOk at hsl hk
  refine stay_pc (first := []) (args := [.d (.sl (names.map D.str)), .d (.sl (kids.map (D.int .i64)))]) (cap := []) T1.g18 rfl rfl rfl (fun e w_len harg => ?_)
  have w_len : e.length = 101 := w_len
  have w_0 : e.getD 0 .undef = .d (.sl (names.map D.str)) := harg 0 (by simp)
  have w_1 : e.getD 1 .undef = .d (.sl (kids.map (D.int .i64))) := harg 1 (by simp)
  clear harg
  by_cases h1 : (names.length : Int) = kids.length
  · by_cases h2 : (24 : Int) < names.length
    · have hS : specEq names kids = (⟨[], []⟩, 2) := by rw [specEq, if_neg (not_not_intro h1), if_pos h2]
      have h2' : (24 : Int) < kids.length := by omega
      simp only [T1.i18, h1, h2', w_len, w_0, w_1, ↓LA, LB, simprocAttr]
      rw [hS]
      exact ⟨.nilS, .nilS, rfl, Nat.le_add_right _ _, (by intro q hq; simp (disch := omega) only [sget_cons_ne]), CQ.nil, CQ.nil⟩
    · have hS := show specEq names kids = _ from by rw [specEq, if_neg (not_not_intro h1), if_neg h2]
      have h2' : ¬ (24 : Int) < kids.length := by omega
      have hlen : names.length = kids.length := by omega
      simp only [T1.i18, h1, h2', w_len, w_0, w_1, ↓LA, LB, simprocAttr]
      refine lp_rounds (fun e0 s0 m env st => ∃ (i nxi lwi : Nat) (si : List (Nat × Obj)) (xc : V), m = names.length - i ∧ (i ≤ names.length) ∧ (GP si true (fun q => n0 + 16 ≤ q ∧ q < nxi ∧ True) 2 3 true xc ((eqClauses names kids i).map ClauseT.d)) ∧ (∀ j, j < i → eqErr names kids j = 0) ∧ (∀ q, q < n0 → sget si q = sget s q) ∧ sget si (n0) = some (.cells [.nilS, .nilS]) ∧ sget si (n0 + 13) = some (.cells [.d (.str [115, 97, 109, 101]), .d (.int .i64 2), .d (.int .i64 1)]) ∧ sget si (n0 + 15) = some (.cells [.arr (n0 + 13) 3 true 0 1, xc]) ∧ n0 + 20 ≤ nxi ∧ 0 ≤ lwi ∧ env.length = 101 ∧ env.getD 30 .undef = .d (.int .i64 i) ∧ env.getD 0 .undef = .d (.sl (names.map D.str)) ∧ env.getD 1 .undef = .d (.sl (kids.map (D.int .i64))) ∧ env.getD 4 .undef = .ptr n0 0 ∧ env.getD 6 .undef = .ptr (n0 + 15) 0 ∧ env.getD 28 .undef = .d (.sl (names.map D.str)) ∧ env.getD 29 .undef = .d (.int .i64 kids.length) ∧ st = { s := si, next := nxi, low := lwi }) ?_ (names.length) (by refine ⟨0, _, _, _, .nilS, rfl, by omega, GP.nil, by omega, by intro q hq; simp (disch := omega) only [sget_cons_ne], ?_, ?_, ?_, (by omega), Nat.zero_le _, ?_, ?_, ?_, ?_, ?_, ?_, ?_, ?_, rfl⟩ <;> simp only [w_len, w_0, w_1, LB, simprocAttr])
      rintro m env st ⟨i, nxi, lwi, si, xc, hm, a_0, a_1, a_2, a_3, w_ac0, w_ac1, w_ac2, w_ab, w_alo, w_len, w_30, w_0, w_1, w_4, w_6, w_28, w_29, rfl⟩
      have w_aN := And.intro (cf1 (x := nxi) (a := n0) (by omega)) (And.intro (cf1 (x := nxi) (a := n0 + 13) (by omega)) (cf1 (x := nxi) (a := n0 + 15) (by omega)))
      have w_aS := And.intro (cf2 (x := nxi) (by omega) w_ac0) (And.intro (cf2 (x := nxi) (by omega) w_ac1) (cf2 (x := nxi) (by omega) w_ac2))
      have w_aZ := zf (x := nxi) (b := n0) (n := 20) (by omega) (by omega)
      have w_a_1V := And.intro (a_1.away (j := n0) (by omega)) (And.intro (a_1.away (j := n0 + 13) (by omega)) (a_1.away (j := n0 + 15) (by omega)))
      have w_a_1c := a_1.cell.1
      have w_a_1d := a_1.cell.2
      have w_a_1e := a_1.beq
      by_cases hi : i < names.length
      · have hi2 : i < kids.length := by omega
        have hM := fun st => named_rel (hs.2 _ (List.getElem_mem hi)) st
        have hE := eqErr_at hi hi2
        cases h3 : isName names[i] with
        | false =>
          rw [h3, if_pos rfl] at hE
          have hF := firstN_at hi a_2 (by rw [hE]; omega)
          rw [hF, hE, if_pos (by omega)] at hS
          simp only [hi2, iaddr_str hi, hM, h3, w_len, w_30, w_4, w_28, w_29, w_ac0, w_aS, ↓LA, LB, simprocAttr]
          rw [hS]
          exact ⟨.nilS, .nilS, rfl, by show n0 ≤ nxi + _; omega, (by intro q hq; simp (disch := omega) only [sget_sset_nn]; exact a_3 q hq), CQ.nil, CQ.nil⟩
        | true =>
          rw [h3, if_neg (by simp)] at hE
          by_cases h4 : kids[i] < 0
          · rw [if_pos (.inl h4)] at hE
            have hF := firstN_at hi a_2 (by rw [hE]; omega)
            rw [hF, hE, if_pos (by omega)] at hS
            simp only [hi2, iaddr_str hi, iaddr_int hi2, hM, h3, h4, w_len, w_30, w_1, w_4, w_28, w_29, w_ac0, w_aS, ↓LA, LB, simprocAttr]
            rw [hS]
            exact ⟨.nilS, .nilS, rfl, by show n0 ≤ nxi + _; omega, (by intro q hq; simp (disch := omega) only [sget_sset_nn]; exact a_3 q hq), CQ.nil, CQ.nil⟩
          by_cases h5 : 4 < kids[i]
          · rw [if_pos (.inr h5)] at hE
            have hF := firstN_at hi a_2 (by rw [hE]; omega)
            rw [hF, hE, if_pos (by omega)] at hS
            simp only [hi2, iaddr_str hi, iaddr_int hi2, hM, h3, h4, h5, w_len, w_30, w_1, w_4, w_28, w_29, w_ac0, w_aS, ↓LA, LB, simprocAttr]
            rw [hS]
            exact ⟨.nilS, .nilS, rfl, by show n0 ≤ nxi + _; omega, (by intro q hq; simp (disch := omega) only [sget_sset_nn]; exact a_3 q hq), CQ.nil, CQ.nil⟩
          rw [if_neg (fun h => h.elim h4 h5)] at hE
          obtain ⟨n, hn⟩ : ∃ n : Nat, kids[i] = n := ⟨kids[i].toNat, by omega⟩
          have hn4 : n ≤ 4 := by omega
          rw [hn] at h4 h5
          simp only [hi2, iaddr_str hi, iaddr_int hi2, hn, hM, h3, h4, h5, w_len, w_30, w_1, w_28, w_29, ↓LA, LB, simprocAttr]
          refine pv_post (letters_ok (b := 0) (n := n) (by omega)) ?_
          intro xl st1 hst1
          obtain ⟨sl, nxl, lwl⟩ := st1
          have hnl : nxi + 35 ≤ nxl := hst1.1
          have hsl' : ∀ q, q < nxi + 35 → sget sl q = sget si q := hst1.2.1
          have hgl : GP sl true (Iv (nxi + 35) nxl) 0 1 false xl ((letters 0 n).map D.str) := hst1.2.2
          clear hst1
          simp only [w_len, ↓LA, LB, simprocAttr]
          refine pv_post (letters_ok (b := 4) (n := n) (by omega)) ?_
          intro xm st2 hst2
          obtain ⟨sm, nxm, lwm⟩ := st2
          have hnm : nxl ≤ nxm := hst2.1
          have hsm' : ∀ q, q < nxl → sget sm q = sget sl q := hst2.2.1
          have hgm : GP sm true (Iv nxl nxm) 0 1 false xm ((letters 4 n).map D.str) := hst2.2.2
          clear hst2
          have hf0 : ∀ q, q < nxi + 35 → sget sm q = sget si q := fun q hq => (hsm' q (by omega)).trans (hsl' q (by omega))
          have hgl2 := hgl.frame (s' := sm) (fun q hq => hsm' q hq.2)
          have w_l1 : sget sm n0 = some (.cells [.nilS, .nilS]) := by rw [hf0 _ (by omega)]; exact w_ac0
          have w_l2 : sget sm (n0 + 13) = some (.cells [.d (.str [115, 97, 109, 101]), .d (.int .i64 2), .d (.int .i64 1)]) := by rw [hf0 _ (by omega)]; exact w_ac1
          have w_l3 : sget sm (n0 + 15) = some (.cells [.arr (n0 + 13) 3 true 0 1, xc]) := by rw [hf0 _ (by omega)]; exact w_ac2
          have w_l4 := hgl.cell.1
          have w_l5 := hgl.cell.2
          have w_l6 := hgl.beq
          have w_l7 := hgl.len
          have w_l8 := hgm.cell.1
          have w_l9 := hgm.cell.2
          have w_l10 := hgm.beq
          simp only [List.length_map, letters_len] at w_l7
          have w_yZ := And.intro (zf (x := nxm) (b := nxi) (n := 35) (by omega) (by omega)) (zf (x := nxm) (b := n0) (n := 20) (by omega) (by omega))
          simp only [w_len, w_l4, w_l5, w_l7, w_l8, w_l9, ↓LA, LB, simprocAttr]
          refine lp_rounds (fun e0 s0 m env st => ∃ (j nxj lwj : Nat) (sj : List (Nat × Obj)) (xb : V), m = n - j ∧ (j ≤ n) ∧ (GP sj true (fun q => nxi + 35 ≤ q ∧ q < nxm ∧ True) 0 1 false xl ((letters 0 n).map D.str)) ∧ (GP sj true (fun q => nxi + 35 ≤ q ∧ q < nxm ∧ True) 0 1 false xm ((letters 4 n).map D.str)) ∧ (GP sj true (fun q => nxm + 13 ≤ q ∧ q < nxj ∧ True) 1 2 true xb (((List.range j).map eqAtom).map PatT.d)) ∧ (GP sj true (fun q => n0 + 16 ≤ q ∧ q < nxi ∧ True) 2 3 true xc ((eqClauses names kids i).map ClauseT.d)) ∧ (∀ q, q < n0 → sget sj q = sget s q) ∧ sget sj (n0) = some (.cells [.nilS, .nilS]) ∧ sget sj (n0 + 13) = some (.cells [.d (.str [115, 97, 109, 101]), .d (.int .i64 2), .d (.int .i64 1)]) ∧ sget sj (n0 + 15) = some (.cells [.arr (n0 + 13) 3 true 0 1, xc]) ∧ sget sj (nxm + 6) = some (.cells [.d (.str names[i]), xl, .d (.str names[i]), xm]) ∧ sget sj (nxm + 8) = some (.cells [.d (.str [115, 97, 109, 101]), .arr (nxm + 6) 2 true 0 2, xb]) ∧ nxm + 13 ≤ nxj ∧ 0 ≤ lwj ∧ env.length = 101 ∧ env.getD 74 .undef = .d (.int .i64 j) ∧ env.getD 0 .undef = .d (.sl (names.map D.str)) ∧ env.getD 1 .undef = .d (.sl (kids.map (D.int .i64))) ∧ env.getD 4 .undef = .ptr n0 0 ∧ env.getD 6 .undef = .ptr (n0 + 15) 0 ∧ env.getD 28 .undef = .d (.sl (names.map D.str)) ∧ env.getD 29 .undef = .d (.int .i64 kids.length) ∧ env.getD 30 .undef = .d (.int .i64 i) ∧ env.getD 9 .undef = xl ∧ env.getD 10 .undef = xm ∧ env.getD 11 .undef = .ptr (nxm + 8) 0 ∧ env.getD 72 .undef = xl ∧ env.getD 73 .undef = .d (.int .i64 n) ∧ st = { s := sj, next := nxj, low := lwj }) ?_ (n) (by refine ⟨0, _, _, _, .nilS, rfl, by omega, (hgl2.mono (fun q hq => ⟨hq.1, by have := hq.2; omega, trivial⟩)).frame (by intro q hq; obtain ⟨h1, h2, h3⟩ := hq; simp (disch := omega) only [sget_cons_ne]), (hgm.mono (fun q hq => ⟨by have := hq.1; omega, hq.2, trivial⟩)).frame (by intro q hq; obtain ⟨h1, h2, h3⟩ := hq; simp (disch := omega) only [sget_cons_ne]), GP.nil, a_1.frame (by intro q hq; obtain ⟨h1, h2, h3⟩ := hq; simp (disch := omega) only [sget_cons_ne]; exact hf0 q (by omega)), by intro q hq; simp (disch := omega) only [sget_cons_ne]; rw [hf0 q (by omega)]; exact a_3 q hq, ?_, ?_, ?_, ?_, ?_, (by omega), Nat.zero_le _, ?_, ?_, ?_, ?_, ?_, ?_, ?_, ?_, ?_, ?_, ?_, ?_, ?_, ?_, rfl⟩ <;> simp only [w_len, w_30, w_0, w_1, w_4, w_6, w_28, w_29, w_l1, w_l2, w_l3, w_yZ, LB, simprocAttr])
          rintro m env st ⟨j, nxj, lwj, sj, xb, hm, c_0, c_1, c_2, c_3, c_4, c_5, w_cc0, w_cc1, w_cc2, w_cc3, w_cc4, w_cb, w_clo, w_len, w_74, w_0, w_1, w_4, w_6, w_28, w_29, w_30, w_9, w_10, w_11, w_72, w_73, rfl⟩
          have w_cN := And.intro (cf1 (x := nxj) (a := n0) (by omega)) (And.intro (cf1 (x := nxj) (a := n0 + 13) (by omega)) (And.intro (cf1 (x := nxj) (a := n0 + 15) (by omega)) (And.intro (cf1 (x := nxj) (a := nxm + 6) (by omega)) (cf1 (x := nxj) (a := nxm + 8) (by omega)))))
          have w_cS := And.intro (cf2 (x := nxj) (by omega) w_cc0) (And.intro (cf2 (x := nxj) (by omega) w_cc1) (And.intro (cf2 (x := nxj) (by omega) w_cc2) (And.intro (cf2 (x := nxj) (by omega) w_cc3) (cf2 (x := nxj) (by omega) w_cc4))))
          have w_cZ := And.intro (zf (x := nxj) (b := nxm) (n := 13) (by omega) (by omega)) (And.intro (zf (x := nxj) (b := nxi) (n := 35) (by omega) (by omega)) (zf (x := nxj) (b := n0) (n := 20) (by omega) (by omega)))
          have w_c_1V := And.intro (c_1.away (j := n0) (by omega)) (And.intro (c_1.away (j := n0 + 13) (by omega)) (And.intro (c_1.away (j := n0 + 15) (by omega)) (And.intro (c_1.away (j := nxm + 6) (by omega)) (c_1.away (j := nxm + 8) (by omega)))))
          have w_c_1c := c_1.cell.1
          have w_c_1d := c_1.cell.2
          have w_c_1e := c_1.beq
          have w_c_2V := And.intro (c_2.away (j := n0) (by omega)) (And.intro (c_2.away (j := n0 + 13) (by omega)) (And.intro (c_2.away (j := n0 + 15) (by omega)) (And.intro (c_2.away (j := nxm + 6) (by omega)) (c_2.away (j := nxm + 8) (by omega)))))
          have w_c_2c := c_2.cell.1
          have w_c_2d := c_2.cell.2
          have w_c_2e := c_2.beq
          have w_c_3V := And.intro (c_3.away (j := n0) (by omega)) (And.intro (c_3.away (j := n0 + 13) (by omega)) (And.intro (c_3.away (j := n0 + 15) (by omega)) (And.intro (c_3.away (j := nxm + 6) (by omega)) (c_3.away (j := nxm + 8) (by omega)))))
          have w_c_3c := c_3.cell.1
          have w_c_3d := c_3.cell.2
          have w_c_3e := c_3.beq
          have w_c_4V := And.intro (c_4.away (j := n0) (by omega)) (And.intro (c_4.away (j := n0 + 13) (by omega)) (And.intro (c_4.away (j := n0 + 15) (by omega)) (And.intro (c_4.away (j := nxm + 6) (by omega)) (c_4.away (j := nxm + 8) (by omega)))))
          have w_c_4c := c_4.cell.1
          have w_c_4d := c_4.cell.2
          have w_c_4e := c_4.beq
          by_cases hj : j < n
          · obtain ⟨kl, csl, hxe, hkl1, hkl2, hkl3, hkl4, hkl5, hkl6⟩ := c_1.strAt (j := j) (by rw [letters_len]; exact hj)
            have hkv : (letters 0 n)[j]'(by rw [letters_len]; exact hj) = [97 + j] := by simp [letters]
            rw [hkv] at hkl6
            obtain ⟨km, csm, hye, hkm1, hkm2, hkm3, hkm4, hkm5, hkm6⟩ := c_2.strAt (j := j) (by rw [letters_len]; exact hj)
            have hkw : (letters 4 n)[j]'(by rw [letters_len]; exact hj) = [101 + j] := by simp [letters]
            rw [hkw] at hkm6
            simp only [hj, hkl2, hkl4, hkl5, hkl6, hkm2, hkm4, hkm5, hkm6, w_len, w_74, w_9, w_10, w_11, w_73, w_cc4, w_cN, w_c_3e, ↓LA, LB, simprocAttr]
            refine pv_appP c_3 ?_ (elts_map fun a => elt_pat) sget_cons_eq ?_ ?_ ?_ ?_ ?_ fun chcb hcb => ?_
            · intro j hj; obtain ⟨h1, h2, h3⟩ := hj; simp (disch := omega) only [sget_cons_ne]
            · rfl
            · omega
            · simp; omega
            · simp; omega
            · exact rfl
            simp only [wrap_succ hj (by omega), List.length_map, List.length_range, w_len, w_74, w_11, w_cc4, w_cN, w_c_3V, ↓LA, LB, simprocAttr]
            exact nx_intro (by refine ⟨_, by omega, j + 1, _, _, _, .arr (nxj + 16) 2 true 0 (j + 1), rfl, by omega, c_1.frame (by intro q hq; obtain ⟨h1, h2, h3⟩ := hq; simp (disch := omega) only [sget_cons_ne, sget_sset_nn, sget_grow_nn (c_3.away (j := q) (by omega))]), c_2.frame (by intro q hq; obtain ⟨h1, h2, h3⟩ := hq; simp (disch := omega) only [sget_cons_ne, sget_sset_nn, sget_grow_nn (c_3.away (j := q) (by omega))]), gp_more [PatT.d (eqAtom j)] (ys := [.d (.str [115, 97, 109, 101]), .arr (nxj + 13) 1 false 0 2]) hcb (by intro q hq h4; obtain ⟨h1, h2, h3⟩ := hq; simp (disch := omega) only [sget_cons_ne, sget_sset_nn, sget_grow_nn h4]) (by intro q hq; exact ⟨hq.1, by have := hq.2.1; omega, trivial⟩) (by exact ⟨by omega, by omega, trivial⟩) (by intro hq; have := hq.2.1; omega) sget_cons_eq (by simp) (by rw [List.range_succ, List.map_append, List.map_append]; rfl) (by exact ⟨CQ.str, cq_arr [D.str [97 + j], D.str [101 + j]] (cs := [.d (.str [97 + j]), .d (.str [101 + j])]) (by exact ⟨⟨by omega, by omega, trivial⟩, by omega⟩) (by simp (disch := omega) only [sget_cons_ne, sget_cons_eq, sget_sset_nn, sget_grow_nn (c_3.away (j := nxj + 13) (by omega))]) (by omega) (by intro x hx; simp at hx; rcases hx with rfl | rfl <;> exact elt_str) rfl (by exact ⟨CQ.str, CQ.str, trivial⟩), trivial⟩), c_4.frame (by intro q hq; obtain ⟨h1, h2, h3⟩ := hq; simp (disch := omega) only [sget_cons_ne, sget_sset_nn, sget_grow_nn (c_3.away (j := q) (by omega))]), (by intro q hq; simp (disch := omega) only [sget_cons_ne, sget_sset_nn, sget_grow_nn (c_3.away (j := q) (by omega))]; exact c_5 q hq), ?_, ?_, ?_, ?_, ?_, (by omega), Nat.zero_le _, ?_, ?_, ?_, ?_, ?_, ?_, ?_, ?_, ?_, ?_, ?_, ?_, ?_, ?_, rfl⟩ <;> simp only [w_len, w_0, w_1, w_4, w_6, w_28, w_29, w_30, w_9, w_10, w_11, w_72, w_73, w_cc0, w_cc1, w_cc2, w_cc3, w_cc4, w_cN, w_yZ, w_c_3V, LB, simprocAttr])
          · have hjn : j = n := by omega
            rw [hjn] at c_3
            have hall : ∀ j', j' < i + 1 → eqErr names kids j' = 0 := fun j' hj' => by
              rcases Nat.lt_or_ge j' i with h | h
              · exact a_2 j' h
              · rw [show j' = i by omega]; exact hE
            simp only [hj, w_len, w_74, w_6, w_11, w_73, w_cc2, w_cc4, w_c_3c, ↓LA, LB, simprocAttr]
            refine pv_appP c_4 ?_ (elts_map fun a => elt_clause) sget_cons_eq ?_ ?_ ?_ ?_ ?_ fun chcc hcc => ?_
            · intro j hj; obtain ⟨h1, h2, h3⟩ := hj; simp (disch := omega) only [sget_cons_ne]
            · rfl
            · omega
            · simp [eqClauses_len]; omega
            · simp [eqClauses_len]; omega
            · simp only [List.all_cons, List.all_nil, ic_str, ic_arr, w_c_3c, Bool.and_self]
            simp only [wrap_succ hi (by omega), List.length_map, eqClauses_len, w_len, w_6, w_30, w_cc2, w_cN, w_c_4V, ↓LA, LB, simprocAttr]
            have hmon1 : ∀ q, (nxi + 35 ≤ q ∧ q < nxm) → (n0 + 16 ≤ q ∧ q < nxj + 10 ∧ True) ∧ q ≠ nxj + 5 := fun q hq => ⟨⟨by omega, by omega, trivial⟩, by omega⟩
            have hmon2 : ∀ q, (nxm + 13 ≤ q ∧ q < nxj) → (n0 + 16 ≤ q ∧ q < nxj + 10 ∧ True) ∧ q ≠ nxj + 5 := fun q hq => ⟨⟨by omega, by omega, trivial⟩, by omega⟩
            exact nx_intro (by refine ⟨_, by omega, i + 1, _, _, _, .arr (nxj + 5) 3 true 0 (i + 1), rfl, by omega, gp_more [ClauseT.d (eqClause names[i] n)] (ys := [.d (.str [115, 97, 109, 101]), .arr (nxm + 6) 2 true 0 2, xb]) hcc (by intro q hq h4; obtain ⟨h1, h2, h3⟩ := hq; simp (disch := omega) only [sget_cons_ne, sget_sset_nn, sget_grow_nn h4]) (by intro q hq; exact ⟨hq.1, by have := hq.2.1; omega, trivial⟩) (by exact ⟨by omega, by omega, trivial⟩) (by intro hq; have := hq.2.1; omega) sget_cons_eq (by simp [eqClauses_len]) (by rw [eqClauses_succ hi hi2, List.map_append, hn]; rfl) (by exact ⟨CQ.str, cq_arr [PatT.d ⟨names[i], letters 0 n⟩, PatT.d ⟨names[i], letters 4 n⟩] (cs := [.d (.str names[i]), xl, .d (.str names[i]), xm]) (by exact ⟨⟨by omega, by omega, trivial⟩, by omega⟩) (by simp (disch := omega) only [sget_cons_ne, sget_sset_nn, sget_grow_nn (c_4.away (j := nxm + 6) (by omega)), w_cc3]) (by omega) (by intro x hx; simp at hx; rcases hx with rfl | rfl <;> exact elt_pat) rfl (by exact ⟨CQ.str, CQ.mono (fun q hq => hmon1 q ⟨hq.1, hq.2.1⟩) ((c_1.frame (by intro q hq; obtain ⟨h1, h2, h3⟩ := hq; simp (disch := omega) only [sget_cons_ne, sget_sset_nn, sget_grow_nn (c_4.away (j := q) (by omega))])).cv (by omega) (elts_map fun a => elt_str)), CQ.str, CQ.mono (fun q hq => hmon1 q ⟨hq.1, hq.2.1⟩) ((c_2.frame (by intro q hq; obtain ⟨h1, h2, h3⟩ := hq; simp (disch := omega) only [sget_cons_ne, sget_sset_nn, sget_grow_nn (c_4.away (j := q) (by omega))])).cv (by omega) (elts_map fun a => elt_str)), trivial⟩), CQ.mono (fun q hq => hmon2 q ⟨hq.1, hq.2.1⟩) ((c_3.frame (by intro q hq; obtain ⟨h1, h2, h3⟩ := hq; simp (disch := omega) only [sget_cons_ne, sget_sset_nn, sget_grow_nn (c_4.away (j := q) (by omega))])).cv (by omega) (elts_map fun a => elt_pat)), trivial⟩), hall, (by intro q hq; simp (disch := omega) only [sget_cons_ne, sget_sset_nn, sget_grow_nn (c_4.away (j := q) (by omega))]; exact c_5 q hq), ?_, ?_, ?_, (by omega), Nat.zero_le _, ?_, ?_, ?_, ?_, ?_, ?_, ?_, ?_, rfl⟩ <;> simp only [w_len, w_0, w_1, w_4, w_6, w_28, w_29, w_cc0, w_cc1, w_cc2, w_cN, w_c_4V, LB, simprocAttr])
      · have hin : i = names.length := by omega
        have hi2 : ¬ i < kids.length := by omega
        rw [hin] at a_1 a_2
        rw [firstN_none a_2, if_neg (by simp)] at hS
        simp only [hi2, w_len, w_30, w_4, w_6, w_29, w_ac0, w_ac2, w_aS, w_a_1c, ↓LA, LB, simprocAttr]
        rw [hS]
        exact ⟨_, xc, rfl, by show n0 ≤ nxi + _; omega, (by intro q hq; simp (disch := omega) only [sget_sset_nn]; exact a_3 q hq), cq_arr [eqRel.d] (cs := [.d (.str [115, 97, 109, 101]), .d (.int .i64 2), .d (.int .i64 1)]) (by exact ⟨by omega, by show n0 + 13 < nxi + _; omega⟩) (by simp (disch := omega) only [sget_sset_nn]; exact w_ac1) (by omega) (by intro x hx; simp at hx; subst hx; exact elt_rel) rfl ⟨CQ.str, CQ.int, CQ.int, trivial⟩, ((a_1.frame (by intro q hq; obtain ⟨h1, h2, h3⟩ := hq; simp (disch := omega) only [sget_sset_nn])).cv (by omega) (elts_map fun a => elt_clause)).mono (fun q hq => ⟨by have := hq.1; omega, by have := hq.2.1; show q < nxi + _; omega⟩)⟩
  · have hS : specEq names kids = (⟨[], []⟩, 7) := by rw [specEq, if_pos h1]
    simp only [T1.i18, h1, w_len, w_0, w_1, ↓LA, LB, simprocAttr]
    rw [hS]
    exact ⟨.nilS, .nilS, rfl, Nat.le_add_right _ _, (by intro q hq; simp (disch := omega) only [sget_cons_ne]), CQ.nil, CQ.nil⟩
end Go.Lift.K
namespace Go.Lift.K
open Go Go.Lift
set_option maxRecDepth 100000
def LiveCell (s0 : List (Nat × Obj)) (n0 : Nat) (d : D) (v : V) (st : St) : Prop := n0 ≤ st.next ∧ (∀ q, q < n0 → sget st.s q = sget s0 q) ∧ CQ st.s true (Iv n0 st.next) 1 v d
theorem str_cells {s : List (Nat × Obj)} {lv : Bool} {S : Nat → Prop} {n : Nat} : ∀ {l : List (List Nat)}, CVs (CQ s lv S n) (((l.map D.str).flatMap cellsD).map V.d) ((l.map D.str).flatMap cellsD)
  | [] => trivial
  | x :: l => ⟨CQ.str, str_cells (l := l)⟩
theorem rel_cells {s : List (Nat × Obj)} {lv : Bool} {S : Nat → Prop} {n : Nat} : ∀ {l : List RelT}, CVs (CQ s lv S n) (((l.map RelT.d).flatMap cellsD).map V.d) ((l.map RelT.d).flatMap cellsD)
  | [] => trivial
  | x :: l => ⟨CQ.str, CQ.int, CQ.int, rel_cells (l := l)⟩
theorem cloneS_ok {l : List (List Nat)} (hl : l.length ≤ 1000000) {s : List (Nat × Obj)} {nx lw : Nat} : PostV (callW G (.fn 131 [] []) [.d (.sl (l.map D.str))] { s := s, next := nx, low := lw }) (LiveCell s nx (.sl (l.map D.str))) := by
  have he : ∀ x ∈ l.map D.str, Elt 1 false x := elts_map fun a => elt_str
  cases l with
  | nil =>
    have h := nil2_pc (rs := [.sl []]) T1.g131 rfl rfl (fun v hv e w_len w_0 => by
      have w_len : e.length = 8 := w_len
      rcases hv with rfl | rfl
      · simp only [w_len, w_0, T1.i131, ↓LA, LB, simprocAttr]
        exact rql1 rfl rfl
      · have hA : ∀ s nx lw, sget s 3 = some (.cells []) → opAppend { s := s, next := nx, low := lw } 5 1 false 16 (.arr 3 1 false 0 0) .emp = _ := fun s nx lw h => app_nil0 h rfl
        simp only [w_len, w_0, T1.i131, hA, ↓LA, LB, simprocAttr]
        refine rql1 (x := .sl []) ?_ rfl
        simp [snap, snapDepth, scells, sget, chunks]) { s := s, next := nx, low := lw }
    exact ⟨_, _, h, Nat.le_refl _, fun q hq => rfl, CQ.none⟩
  | cons a l =>
    have hA : ∀ z nx' lw, sget z (nx + 3) = some (.cells []) → opAppend { s := z, next := nx', low := lw } (nx + 5) 1 false 16 (.arr (nx + 3) 1 false 0 0) (.d (.sl ((a :: l).map D.str))) = _ := fun s nx lw h => app_data h he (by simp at hl ⊢; omega) (by simp at hl ⊢; omega)
    simp only [List.map_cons, List.length_cons, List.length_map] at hA
    refine stay2_pc (args := [.d (.sl ((a :: l).map D.str))]) T1.g131 rfl rfl rfl (fun e w_len harg => ?_)
    have w_len : e.length = 8 := w_len
    have w_0 : e.getD 0 .undef = .d (.sl ((a :: l).map D.str)) := harg 0 (by simp)
    clear harg
    simp only [T1.i131, List.map_cons, hA, w_len, w_0, ↓LA, LB, simprocAttr]
    exact ⟨Nat.le_add_right _ _, (by intro q hq; simp (disch := omega) only [sget_cons_ne, sget_sdel_ne (show nx + 3 ≠ q by omega)]), cq_arr ((a :: l).map D.str) (by exact ⟨by omega, by show nx + 5 < nx + _; omega⟩) sget_cons_eq (by omega) he (by simp) (str_cells (l := a :: l))⟩
end Go.Lift.K
namespace Go.Lift.K
open Go Go.Lift
set_option maxRecDepth 100000
def OwnRes (s : List (Nat × Obj)) (n0 : Nat) (r : RulesT) (v : V) (st : St) : Prop := ∃ a b, v = mkAgg [a, b] ∧ n0 ≤ st.next ∧ (∀ q, q < n0 → sget st.s q = sget s q) ∧ GP st.s true (Iv n0 st.next) 0 3 true a (r.rels.map RelT.d) ∧ CQ st.s true (fun q => n0 ≤ q ∧ q < st.next ∧ away a q) 3 b (.sl (r.clauses.map ClauseT.d))
def allRels (l : List RulesT) : List RelT := l.flatMap RulesT.rels
def allClauses (l : List RulesT) : List ClauseT := l.flatMap RulesT.clauses
theorem allRels_succ {l : List RulesT} {p : Nat} (hp : p < l.length) : allRels (l.take (p + 1)) = allRels (l.take p) ++ l[p].rels := by
  rw [take_snoc hp, allRels, List.flatMap_append]
  simp [allRels]
theorem allClauses_succ {l : List RulesT} {p : Nat} (hp : p < l.length) : allClauses (l.take (p + 1)) = allClauses (l.take p) ++ l[p].clauses := by
  rw [take_snoc hp, allClauses, List.flatMap_append]
  simp [allClauses]
set_option maxHeartbeats 8000000 in
theorem pown_ok {l : List RulesT} (hk : ∀ r ∈ l, rulesSmall r ∧ 0 < r.rels.length) (hm : l.length ≤ 2) {ka : Nat} {CA : List V} {s : List (Nat × Obj)} {n0 lw : Nat} (hka : ka < n0) (hCA : sget s ka = some (.cells CA)) (hCl : CA.length = l.length * 2)
    (hCt : ∀ {p : Nat} (hp : p < l.length), (CA.drop (p * 2)).take 2 = [.d (.sl (l[p].rels.map RelT.d)), .d (.sl (l[p].clauses.map ClauseT.d))])
    (hlen1 : ∀ p, (allRels (l.take p)).length ≤ 2000000) (hlen2 : ∀ p, (allClauses (l.take p)).length ≤ 2000000) :
    PostV (callW G (.fn 69 [] []) [.arr ka 2 true 0 l.length] { s := s, next := n0, low := lw }) (OwnRes s n0 ⟨allRels l, allClauses l⟩) := by
  refine stay_pc (first := []) (args := [.arr ka 2 true 0 l.length]) (cap := []) T1.g69 rfl rfl rfl (fun e w_len harg => ?_)
  have w_len : e.length = 90 := w_len
  have w_0 : e.getD 0 .undef = .arr ka 2 true 0 l.length := harg 0 (by simp)
  clear harg
  have w_kz0 : (n0 = ka) = False := by simp; omega
  have w_kz1 : ∀ a, (n0 + a = ka) = False := fun a => by simp; omega
  have w_kz2 := hCA
  simp only [T1.i69, w_len, w_0, ↓LA, LB, simprocAttr]
  refine lp_rounds (fun e0 s0 m env st => ∃ (p nxp lwp : Nat) (sp : List (Nat × Obj)) (xr xc : V), m = l.length - p ∧ (p ≤ l.length) ∧ (GP sp true (fun q => n0 + 2 ≤ q ∧ q < nxp ∧ ¬ away xr q) 0 3 true xr ((allRels (l.take p)).map RelT.d)) ∧ (GP sp true (fun q => n0 + 2 ≤ q ∧ q < nxp ∧ away xr q) 2 3 true xc ((allClauses (l.take p)).map ClauseT.d)) ∧ (∀ q, q < n0 → sget sp q = sget s q) ∧ sget sp (n0) = some (.cells [.nilS, .nilS]) ∧ sget sp (n0 + 1) = some (.cells [xr, xc]) ∧ sget sp (ka) = some (.cells CA) ∧ n0 + 5 ≤ nxp ∧ 0 ≤ lwp ∧ env.length = 90 ∧ env.getD 16 .undef = .d (.int .i64 p) ∧ env.getD 2 .undef = .ptr n0 0 ∧ env.getD 3 .undef = .ptr (n0 + 1) 0 ∧ env.getD 14 .undef = .arr ka 2 true 0 l.length ∧ env.getD 15 .undef = .d (.int .i64 l.length) ∧ st = { s := sp, next := nxp, low := lwp }) ?_ (l.length) (by refine ⟨0, _, _, _, .nilS, .nilS, rfl, by omega, GP.nil, GP.nil, by intro q hq; simp (disch := omega) only [sget_cons_ne], ?_, ?_, ?_, (by omega), Nat.zero_le _, ?_, ?_, ?_, ?_, ?_, ?_, rfl⟩ <;> simp only [w_len, w_kz0, w_kz1, w_kz2, LB, simprocAttr])
  rintro m env st ⟨p, nxp, lwp, sp, xr, xc, hm, p_0, p_1, p_2, p_3, w_pc0, w_pc1, w_pc2, w_pb, w_plo, w_len, w_16, w_2, w_3, w_14, w_15, rfl⟩
  have w_pN := And.intro (cf1 (x := nxp) (a := n0) (by omega)) (And.intro (cf1 (x := nxp) (a := n0 + 1) (by omega)) (cf1 (x := nxp) (a := ka) (by omega)))
  have w_pS := And.intro (cf2 (x := nxp) (by omega) w_pc0) (And.intro (cf2 (x := nxp) (by omega) w_pc1) (cf2 (x := nxp) (by omega) w_pc2))
  have w_pZ := zf (x := nxp) (b := n0) (n := 5) (by omega) (by omega)
  have w_p_1V := And.intro (p_1.away (j := n0) (by omega)) (And.intro (p_1.away (j := n0 + 1) (by omega)) (And.intro (p_1.away (j := ka) (by omega)) (And.intro (p_1.away (j := nxp + 3) (by omega)) (p_1.away (j := nxp + 8) (by omega)))))
  have w_p_1c := p_1.cell.1
  have w_p_1d := p_1.cell.2
  have w_p_1e := p_1.beq
  have w_p_2V := And.intro (p_2.away (j := n0) (by omega)) (And.intro (p_2.away (j := n0 + 1) (by omega)) (And.intro (p_2.away (j := ka) (by omega)) (And.intro (p_2.away (j := nxp + 3) (by omega)) (p_2.away (j := nxp + 8) (by omega)))))
  have w_p_2c := p_2.cell.1
  have w_p_2d := p_2.cell.2
  have w_p_2e := p_2.beq
  by_cases hp : p < l.length
  · have hr := hk _ (List.getElem_mem hp)
    have hrn := hr.2
    have hrs := hr.1.1
    have hrc := hr.1.2.1
    have hl1 := hlen1 p
    have hl1' := hlen1 (p + 1)
    have hl2 := hlen2 p
    have hl2' := hlen2 (p + 1)
    rw [allRels_succ hp, List.length_append] at hl1'
    rw [allClauses_succ hp, List.length_append] at hl2'
    have hia : opIaddrS 2 (.arr ka 2 true 0 l.length) (p : Int) = some (.ptr ka (p * 2)) := by
      simp only [opIaddrS]
      rw [if_pos ⟨by omega, by omega, trivial⟩]
      simp
    have hc1 : p * 2 + 2 ≤ CA.length := by omega
    have hc2 := hCt hp
    have hmk := fun (key : Nat) (st : St) => mkslice_n (key := key) (es := 3) (eb := 32) (n := l[p].rels.length) (ag := true) (zero := [.d (.str []), .d (.int .i64 0), .d (.int .i64 0)]) (st := st) (by omega) (by omega) rfl rfl
    have hcp : ∀ z nx' lw, sget z (nxp + 8) = some (.cells (List.replicate l[p].rels.length [V.d (.str []), V.d (.int .i64 0), V.d (.int .i64 0)]).flatten) → opCopy { s := z, next := nx', low := lw } 3 (.arr (nxp + 8) 3 true 0 l[p].rels.length) (.d (.sl (l[p].rels.map RelT.d))) = some (.d (.int .i64 l[p].rels.length), { s := sset z (nxp + 8) (.cells (((l[p].rels.map RelT.d).flatMap cellsD).map V.d)), next := nx', low := Nat.min lw (nxp + 8) }) := fun z nx' lw h => by
      have := copy_all (nx := nx') (lw := lw) (ag := true) (l := l[p].rels.map RelT.d) h (by rw [flat_len (es := 3) rfl, List.length_map]) (elts_map fun a => elt_rel)
      simpa using this
    simp only [hp, hia, hc1, hc2, hmk, hcp, w_len, w_16, w_3, w_14, w_15, w_pc1, w_pc2, w_pN, ↓LA, LB, simprocAttr]
    refine pv_appP p_1 ?_ (elts_map fun a => elt_rel) sget_cons_eq ?_ ?_ ?_ ?_ ?_ fun chcr hcr => ?_
    · intro j hj; obtain ⟨h1, h2, h3⟩ := hj; simp (disch := omega) only [sget_cons_ne]
    · rw [List.length_map, (cellsD_all (elts_map fun a => elt_rel)).2, List.length_map]
    · omega
    · simp; omega
    · simp; omega
    · rw [List.all_map]; exact (cellsD_all (elts_map fun a => elt_rel)).1
    simp only [List.length_map, w_len, w_3, w_pc1, w_pN, w_pZ, w_p_1V, ↓LA, LB, simprocAttr]
    refine lp_rounds (fun e0 s0 m env st => ∃ (i nxi lwi : Nat) (si : List (Nat × Obj)) (xc : V), m = l[p].clauses.length - i ∧ (i ≤ l[p].clauses.length) ∧ (GP si true (fun q => n0 + 2 ≤ q ∧ q < nxi ∧ nxp + 17 = q) 0 3 true (.arr (nxp + 17) 3 true 0 ((allRels (l.take p)).length + l[p].rels.length)) ((allRels (l.take (p + 1))).map RelT.d)) ∧ (GP si true (fun q => n0 + 2 ≤ q ∧ q < nxi ∧ nxp + 17 ≠ q) 2 3 true xc ((allClauses (l.take p) ++ l[p].clauses.take i).map ClauseT.d)) ∧ (∀ q, q < n0 → sget si q = sget s q) ∧ sget si (n0) = some (.cells [.nilS, .nilS]) ∧ sget si (n0 + 1) = some (.cells [.arr (nxp + 17) 3 true 0 ((allRels (l.take p)).length + l[p].rels.length), xc]) ∧ nxp + 24 ≤ nxi ∧ 0 ≤ lwi ∧ env.length = 90 ∧ env.getD 36 .undef = .d (.int .i64 i) ∧ env.getD 2 .undef = .ptr n0 0 ∧ env.getD 3 .undef = .ptr (n0 + 1) 0 ∧ env.getD 14 .undef = .arr ka 2 true 0 l.length ∧ env.getD 15 .undef = .d (.int .i64 l.length) ∧ env.getD 16 .undef = .d (.int .i64 p) ∧ env.getD 34 .undef = .d (.sl (l[p].clauses.map ClauseT.d)) ∧ env.getD 35 .undef = .d (.int .i64 l[p].clauses.length) ∧ st = { s := si, next := nxi, low := lwi }) ?_ (l[p].clauses.length) (by refine ⟨0, _, _, _, xc, rfl, by omega, gp_more0 (l[p].rels.map RelT.d) hcr (by exact ⟨by omega, by omega, rfl⟩) sget_cons_eq (by simp) (by rw [allRels_succ hp, List.map_append]) rel_cells, by simpa using (p_2.frame (by intro q hq; obtain ⟨h1, h2, h3⟩ := hq; simp (disch := omega) only [sget_cons_ne, sget_sset_nn, sget_grow_nn (h3)])).mono (fun q hq => ⟨hq.1, by have := hq.2.1; omega, by have := hq.2.1; omega⟩), by intro q hq; simp (disch := omega) only [sget_cons_ne, sget_sset_nn, sget_grow_nn (p_1.away (j := q) (by omega))]; exact p_3 q hq, ?_, ?_, (by omega), Nat.zero_le _, ?_, ?_, ?_, ?_, ?_, ?_, ?_, ?_, ?_, rfl⟩ <;> simp only [w_len, w_16, w_2, w_3, w_14, w_15, w_pc0, w_pc1, w_pN, w_p_1V, LB, simprocAttr])
    rintro m env st ⟨i, nxi, lwi, si, xc, hm, i_0, i_1, i_2, i_3, w_ic0, w_ic1, w_ib, w_ilo, w_len, w_36, w_2, w_3, w_14, w_15, w_16, w_34, w_35, rfl⟩
    have w_iN := And.intro (cf1 (x := nxi) (a := n0) (by omega)) (cf1 (x := nxi) (a := n0 + 1) (by omega))
    have w_iS := And.intro (cf2 (x := nxi) (by omega) w_ic0) (cf2 (x := nxi) (by omega) w_ic1)
    have w_iZ := And.intro (zf (x := nxi) (b := nxp) (n := 24) (by omega) (by omega)) (zf (x := nxi) (b := n0) (n := 5) (by omega) (by omega))
    have w_i_2V := And.intro (i_2.away (j := n0) (by omega)) (And.intro (i_2.away (j := n0 + 1) (by omega)) (And.intro (i_2.away (j := ka) (by omega)) (And.intro (i_2.away (j := nxp + 17) (by omega)) (And.intro (i_2.away (j := nxi + 3) (by omega)) (i_2.away (j := nxi + 8) (by omega))))))
    have w_i_2c := i_2.cell.1
    have w_i_2d := i_2.cell.2
    have w_i_2e := i_2.beq
    by_cases hi : i < l[p].clauses.length
    · have hs := hr.1.2.2 _ (List.getElem_mem hi)
      have hs1 := hs.1.1
      have hs2 := hs.2.1
      simp only [hi, iaddr_clause hi, w_len, w_36, w_34, w_35, ↓LA, LB, simprocAttr]
      refine lp_rounds (fun e0 s0 m env st => ∃ (k nxk lwk : Nat) (sk : List (Nat × Obj)) (xw : V), m = l[p].clauses[i].head.length - k ∧ (k ≤ l[p].clauses[i].head.length) ∧ (GP sk true (fun q => nxi + 14 ≤ q ∧ q < nxk ∧ True) 1 2 true xw ((l[p].clauses[i].head.take k).map PatT.d)) ∧ (GP sk true (fun q => n0 + 2 ≤ q ∧ q < nxi ∧ nxp + 17 = q) 0 3 true (.arr (nxp + 17) 3 true 0 ((allRels (l.take p)).length + l[p].rels.length)) ((allRels (l.take (p + 1))).map RelT.d)) ∧ (GP sk true (fun q => n0 + 2 ≤ q ∧ q < nxi ∧ nxp + 17 ≠ q) 2 3 true xc ((allClauses (l.take p) ++ l[p].clauses.take i).map ClauseT.d)) ∧ (∀ q, q < n0 → sget sk q = sget s q) ∧ sget sk (n0) = some (.cells [.nilS, .nilS]) ∧ sget sk (n0 + 1) = some (.cells [.arr (nxp + 17) 3 true 0 ((allRels (l.take p)).length + l[p].rels.length), xc]) ∧ sget sk (nxi + 3) = some (.cells [.d (.str l[p].clauses[i].rel), .d (.sl (l[p].clauses[i].head.map PatT.d)), .d (.sl (l[p].clauses[i].body.map PatT.d))]) ∧ sget sk (nxi + 8) = some (.cells [.d (.str l[p].clauses[i].rel), xw, .nilS]) ∧ nxi + 14 ≤ nxk ∧ 0 ≤ lwk ∧ env.length = 90 ∧ env.getD 46 .undef = .d (.int .i64 k) ∧ env.getD 2 .undef = .ptr n0 0 ∧ env.getD 3 .undef = .ptr (n0 + 1) 0 ∧ env.getD 14 .undef = .arr ka 2 true 0 l.length ∧ env.getD 15 .undef = .d (.int .i64 l.length) ∧ env.getD 16 .undef = .d (.int .i64 p) ∧ env.getD 34 .undef = .d (.sl (l[p].clauses.map ClauseT.d)) ∧ env.getD 35 .undef = .d (.int .i64 l[p].clauses.length) ∧ env.getD 36 .undef = .d (.int .i64 i) ∧ env.getD 8 .undef = .ptr (nxi + 3) 0 ∧ env.getD 9 .undef = .ptr (nxi + 8) 0 ∧ env.getD 44 .undef = .d (.sl (l[p].clauses[i].head.map PatT.d)) ∧ env.getD 45 .undef = .d (.int .i64 l[p].clauses[i].head.length) ∧ st = { s := sk, next := nxk, low := lwk }) ?_ (l[p].clauses[i].head.length) (by refine ⟨0, _, _, _, .nilS, rfl, by omega, GP.nil, i_1.frame (by intro q hq; obtain ⟨h1, h2, h3⟩ := hq; simp (disch := omega) only [sget_cons_ne]), i_2.frame (by intro q hq; obtain ⟨h1, h2, h3⟩ := hq; simp (disch := omega) only [sget_cons_ne]), by intro q hq; simp (disch := omega) only [sget_cons_ne]; exact i_3 q hq, ?_, ?_, ?_, ?_, (by omega), Nat.zero_le _, ?_, ?_, ?_, ?_, ?_, ?_, ?_, ?_, ?_, ?_, ?_, ?_, ?_, ?_, rfl⟩ <;> simp only [w_len, w_36, w_2, w_3, w_14, w_15, w_16, w_34, w_35, w_ic0, w_ic1, w_iN, LB, simprocAttr])
      rintro m env st ⟨k, nxk, lwk, sk, xw, hm, k_0, k_1, k_2, k_3, k_4, w_kc0, w_kc1, w_kc2, w_kc3, w_kb, w_klo, w_len, w_46, w_2, w_3, w_14, w_15, w_16, w_34, w_35, w_36, w_8, w_9, w_44, w_45, rfl⟩
      have w_kN := And.intro (cf1 (x := nxk) (a := n0) (by omega)) (And.intro (cf1 (x := nxk) (a := n0 + 1) (by omega)) (And.intro (cf1 (x := nxk) (a := nxi + 3) (by omega)) (cf1 (x := nxk) (a := nxi + 8) (by omega))))
      have w_kS := And.intro (cf2 (x := nxk) (by omega) w_kc0) (And.intro (cf2 (x := nxk) (by omega) w_kc1) (And.intro (cf2 (x := nxk) (by omega) w_kc2) (cf2 (x := nxk) (by omega) w_kc3)))
      have w_kZ := And.intro (zf (x := nxk) (b := nxi) (n := 14) (by omega) (by omega)) (And.intro (zf (x := nxk) (b := nxp) (n := 24) (by omega) (by omega)) (zf (x := nxk) (b := n0) (n := 5) (by omega) (by omega)))
      have w_k_1V := And.intro (k_1.away (j := n0) (by omega)) (And.intro (k_1.away (j := n0 + 1) (by omega)) (And.intro (k_1.away (j := ka) (by omega)) (And.intro (k_1.away (j := nxi + 3) (by omega)) (And.intro (k_1.away (j := nxi + 8) (by omega)) (k_1.away (j := nxk + 3) (by omega))))))
      have w_k_1c := k_1.cell.1
      have w_k_1d := k_1.cell.2
      have w_k_1e := k_1.beq
      have w_k_3V := And.intro (k_3.away (j := n0) (by omega)) (And.intro (k_3.away (j := n0 + 1) (by omega)) (And.intro (k_3.away (j := ka) (by omega)) (And.intro (k_3.away (j := nxi + 3) (by omega)) (And.intro (k_3.away (j := nxi + 8) (by omega)) (k_3.away (j := nxk + 3) (by omega))))))
      have w_k_3c := k_3.cell.1
      have w_k_3d := k_3.cell.2
      have w_k_3e := k_3.beq
      by_cases hk : k < l[p].clauses[i].head.length
      · simp only [hk, iaddr_pat hk, w_len, w_46, w_9, w_44, w_45, w_kc3, w_kN, ↓LA, LB, simprocAttr]
        refine pv_post (cloneS_ok (l := l[p].clauses[i].head[k].vars) (hs.1.2 _ (List.getElem_mem hk))) ?_
        intro xm st1 hst1
        obtain ⟨sm, nxm, lwm⟩ := st1
        have hnm : nxk + 17 ≤ nxm := hst1.1
        have hsm : ∀ q, q < nxk + 17 → sget sm q = sget ((nxk + 3, Obj.cells [.d (.str l[p].clauses[i].head[k].name), .d (.sl (l[p].clauses[i].head[k].vars.map D.str))]) :: sk) q := hst1.2.1
        have hcm : CQ sm true (Iv (nxk + 17) nxm) 1 xm (.sl (l[p].clauses[i].head[k].vars.map D.str)) := hst1.2.2
        clear hst1
        have hf : ∀ q, q < nxk → sget sm q = sget sk q := fun q hq => by rw [hsm q (by omega)]; simp (disch := omega) only [sget_cons_ne]
        have w_m0 : sget sm (nxk + 3) = some (.cells [.d (.str l[p].clauses[i].head[k].name), .d (.sl (l[p].clauses[i].head[k].vars.map D.str))]) := by rw [hsm _ (by omega)]; exact sget_cons_eq
        have w_m1 := (hf n0 (by omega)).trans w_kc0
        have w_m2 := (hf (n0 + 1) (by omega)).trans w_kc1
        have w_m4 := (hf (nxi + 3) (by omega)).trans w_kc2
        have w_m5 := (hf (nxi + 8) (by omega)).trans w_kc3
        have w_m6 := hcm.cell.1
        have w_m7 := hcm.cell.2.1
        have w_m8 := hcm.beq
        simp only [w_len, w_kc3, w_kN, w_k_1e, w_m0, w_m5, w_m6, w_m7, ↓LA, LB, simprocAttr]
        refine pv_appP k_1 ?_ (elts_map fun a => elt_pat) sget_cons_eq ?_ ?_ ?_ ?_ ?_ fun chcw hcw => ?_
        · intro q hq; obtain ⟨h1, h2, h3⟩ := hq; simp (disch := omega) only [sget_cons_ne]; exact hf q (by omega)
        · rfl
        · omega
        · simp; omega
        · simp; omega
        · simp only [List.all_cons, List.all_nil, ic_str, w_m6, Bool.and_self]
        simp only [wrap_succ hk (by omega), List.length_map, w_len, w_46, w_9, w_kN, w_k_1V, w_m5, ↓LA, LB, simprocAttr]
        exact nx_intro (by refine ⟨_, by omega, k + 1, _, _, _, .arr (nxk + 14) 2 true 0 ((l[p].clauses[i].head.take k).length + 1), rfl, by omega, gp_more [PatT.d l[p].clauses[i].head[k]] (ys := [.d (.str l[p].clauses[i].head[k].name), xm]) hcw (by intro q hq h4; obtain ⟨h1, h2, h3⟩ := hq; simp (disch := omega) only [sget_cons_ne, sget_sset_nn, sget_grow_nn h4]; exact hf q (by omega)) (by intro q hq; exact ⟨hq.1, by have := hq.2.1; omega, trivial⟩) (by exact ⟨by omega, by omega, trivial⟩) (by intro hq; have := hq.2.1; omega) sget_cons_eq (by simp) (by rw [take_snoc hk, List.map_append]; rfl) (by exact ⟨CQ.str, CQ.mono (fun q hq => ⟨⟨by have := hq.1; omega, by have := hq.2; omega, trivial⟩, by have := hq.1; omega⟩) (CQ.frame (by intro q hq; obtain ⟨h1, h2⟩ := hq; simp (disch := omega) only [sget_cons_ne, sget_sset_nn, sget_grow_nn (k_1.away (j := q) (by omega))]) hcm), trivial⟩), k_2.frame (by intro q hq; obtain ⟨h1, h2, h3⟩ := hq; simp (disch := omega) only [sget_cons_ne, sget_sset_nn, sget_grow_nn (k_1.away (j := q) (by omega))]; exact hf q (by omega)), k_3.frame (by intro q hq; obtain ⟨h1, h2, h3⟩ := hq; simp (disch := omega) only [sget_cons_ne, sget_sset_nn, sget_grow_nn (k_1.away (j := q) (by omega))]; exact hf q (by omega)), (by intro q hq; simp (disch := omega) only [sget_cons_ne, sget_sset_nn, sget_grow_nn (k_1.away (j := q) (by omega))]; rw [hf q (by omega)]; exact k_4 q hq), ?_, ?_, ?_, ?_, (by omega), Nat.zero_le _, ?_, ?_, ?_, ?_, ?_, ?_, ?_, ?_, ?_, ?_, ?_, ?_, ?_, ?_, rfl⟩ <;> simp only [w_len, w_2, w_3, w_14, w_15, w_16, w_34, w_35, w_36, w_8, w_9, w_44, w_45, w_kN, w_iN, w_k_1V, w_m1, w_m2, w_m4, w_m5, LB, simprocAttr])
      · have ht : l[p].clauses[i].head.take k = l[p].clauses[i].head := List.take_of_length_le (by omega)
        rw [ht] at k_1
        simp only [hk, w_len, w_46, w_8, w_45, w_kc2, ↓LA, LB, simprocAttr]
        refine lp_rounds (fun e0 s0 m env st => ∃ (z nxz lwz : Nat) (sz : List (Nat × Obj)) (xz : V), m = l[p].clauses[i].body.length - z ∧ (z ≤ l[p].clauses[i].body.length) ∧ (GP sz true (fun q => nxk + 5 ≤ q ∧ q < nxz ∧ True) 1 2 true xz ((l[p].clauses[i].body.take z).map PatT.d)) ∧ (GP sz true (fun q => n0 + 2 ≤ q ∧ q < nxi ∧ nxp + 17 = q) 0 3 true (.arr (nxp + 17) 3 true 0 ((allRels (l.take p)).length + l[p].rels.length)) ((allRels (l.take (p + 1))).map RelT.d)) ∧ (GP sz true (fun q => n0 + 2 ≤ q ∧ q < nxi ∧ nxp + 17 ≠ q) 2 3 true xc ((allClauses (l.take p) ++ l[p].clauses.take i).map ClauseT.d)) ∧ (∀ q, q < n0 → sget sz q = sget s q) ∧ (GP sz true (fun q => nxi + 14 ≤ q ∧ q < nxk ∧ True) 1 2 true xw (l[p].clauses[i].head.map PatT.d)) ∧ sget sz (n0) = some (.cells [.nilS, .nilS]) ∧ sget sz (n0 + 1) = some (.cells [.arr (nxp + 17) 3 true 0 ((allRels (l.take p)).length + l[p].rels.length), xc]) ∧ sget sz (nxi + 3) = some (.cells [.d (.str l[p].clauses[i].rel), .d (.sl (l[p].clauses[i].head.map PatT.d)), .d (.sl (l[p].clauses[i].body.map PatT.d))]) ∧ sget sz (nxi + 8) = some (.cells [.d (.str l[p].clauses[i].rel), xw, xz]) ∧ nxk + 5 ≤ nxz ∧ 0 ≤ lwz ∧ env.length = 90 ∧ env.getD 65 .undef = .d (.int .i64 z) ∧ env.getD 2 .undef = .ptr n0 0 ∧ env.getD 3 .undef = .ptr (n0 + 1) 0 ∧ env.getD 14 .undef = .arr ka 2 true 0 l.length ∧ env.getD 15 .undef = .d (.int .i64 l.length) ∧ env.getD 16 .undef = .d (.int .i64 p) ∧ env.getD 34 .undef = .d (.sl (l[p].clauses.map ClauseT.d)) ∧ env.getD 35 .undef = .d (.int .i64 l[p].clauses.length) ∧ env.getD 36 .undef = .d (.int .i64 i) ∧ env.getD 8 .undef = .ptr (nxi + 3) 0 ∧ env.getD 9 .undef = .ptr (nxi + 8) 0 ∧ env.getD 63 .undef = .d (.sl (l[p].clauses[i].body.map PatT.d)) ∧ env.getD 64 .undef = .d (.int .i64 l[p].clauses[i].body.length) ∧ st = { s := sz, next := nxz, low := lwz }) ?_ (l[p].clauses[i].body.length) (by refine ⟨0, _, _, _, .nilS, rfl, by omega, GP.nil, k_2, k_3, k_4, k_1, ?_, ?_, ?_, ?_, (by omega), Nat.zero_le _, ?_, ?_, ?_, ?_, ?_, ?_, ?_, ?_, ?_, ?_, ?_, ?_, ?_, ?_, rfl⟩ <;> simp only [w_len, w_2, w_3, w_14, w_15, w_16, w_34, w_35, w_36, w_8, w_9, w_kc0, w_kc1, w_kc2, w_kc3, LB, simprocAttr])
        rintro m env st ⟨z, nxz, lwz, sz, xz, hm, z_0, z_1, z_2, z_3, z_4, z_5, w_zc0, w_zc1, w_zc2, w_zc3, w_zb, w_zlo, w_len, w_65, w_2, w_3, w_14, w_15, w_16, w_34, w_35, w_36, w_8, w_9, w_63, w_64, rfl⟩
        have w_zN := And.intro (cf1 (x := nxz) (a := n0) (by omega)) (And.intro (cf1 (x := nxz) (a := n0 + 1) (by omega)) (And.intro (cf1 (x := nxz) (a := nxi + 3) (by omega)) (cf1 (x := nxz) (a := nxi + 8) (by omega))))
        have w_zS := And.intro (cf2 (x := nxz) (by omega) w_zc0) (And.intro (cf2 (x := nxz) (by omega) w_zc1) (And.intro (cf2 (x := nxz) (by omega) w_zc2) (cf2 (x := nxz) (by omega) w_zc3)))
        have w_zZ := And.intro (zf (x := nxz) (b := nxk) (n := 5) (by omega) (by omega)) (And.intro (zf (x := nxz) (b := nxi) (n := 14) (by omega) (by omega)) (And.intro (zf (x := nxz) (b := nxp) (n := 24) (by omega) (by omega)) (zf (x := nxz) (b := n0) (n := 5) (by omega) (by omega))))
        have w_z_1V := And.intro (z_1.away (j := n0) (by omega)) (And.intro (z_1.away (j := n0 + 1) (by omega)) (And.intro (z_1.away (j := ka) (by omega)) (And.intro (z_1.away (j := nxi + 3) (by omega)) (And.intro (z_1.away (j := nxi + 8) (by omega)) (z_1.away (j := nxz + 3) (by omega))))))
        have w_z_1c := z_1.cell.1
        have w_z_1d := z_1.cell.2
        have w_z_1e := z_1.beq
        have w_z_3V := And.intro (z_3.away (j := n0) (by omega)) (And.intro (z_3.away (j := n0 + 1) (by omega)) (And.intro (z_3.away (j := ka) (by omega)) (And.intro (z_3.away (j := nxi + 3) (by omega)) (And.intro (z_3.away (j := nxi + 8) (by omega)) (z_3.away (j := nxz + 3) (by omega))))))
        have w_z_3c := z_3.cell.1
        have w_z_3d := z_3.cell.2
        have w_z_3e := z_3.beq
        have w_z_5V := And.intro (z_5.away (j := n0) (by omega)) (And.intro (z_5.away (j := n0 + 1) (by omega)) (And.intro (z_5.away (j := ka) (by omega)) (And.intro (z_5.away (j := nxi + 3) (by omega)) (And.intro (z_5.away (j := nxi + 8) (by omega)) (z_5.away (j := nxz + 3) (by omega))))))
        have w_z_5c := z_5.cell.1
        have w_z_5d := z_5.cell.2
        have w_z_5e := z_5.beq
        by_cases hz : z < l[p].clauses[i].body.length
        · simp only [hz, iaddr_pat hz, w_len, w_65, w_9, w_63, w_64, w_zc3, w_zN, ↓LA, LB, simprocAttr]
          refine pv_post (cloneS_ok (l := l[p].clauses[i].body[z].vars) (hs.2.2 _ (List.getElem_mem hz))) ?_
          intro xm st1 hst1
          obtain ⟨sm, nxm, lwm⟩ := st1
          have hnm : nxz + 17 ≤ nxm := hst1.1
          have hsm : ∀ q, q < nxz + 17 → sget sm q = sget ((nxz + 3, Obj.cells [.d (.str l[p].clauses[i].body[z].name), .d (.sl (l[p].clauses[i].body[z].vars.map D.str))]) :: sz) q := hst1.2.1
          have hcm : CQ sm true (Iv (nxz + 17) nxm) 1 xm (.sl (l[p].clauses[i].body[z].vars.map D.str)) := hst1.2.2
          clear hst1
          have hf : ∀ q, q < nxz → sget sm q = sget sz q := fun q hq => by rw [hsm q (by omega)]; simp (disch := omega) only [sget_cons_ne]
          have w_m0 : sget sm (nxz + 3) = some (.cells [.d (.str l[p].clauses[i].body[z].name), .d (.sl (l[p].clauses[i].body[z].vars.map D.str))]) := by rw [hsm _ (by omega)]; exact sget_cons_eq
          have w_m1 := (hf n0 (by omega)).trans w_zc0
          have w_m2 := (hf (n0 + 1) (by omega)).trans w_zc1
          have w_m4 := (hf (nxi + 3) (by omega)).trans w_zc2
          have w_m5 := (hf (nxi + 8) (by omega)).trans w_zc3
          have w_m6 := hcm.cell.1
          have w_m7 := hcm.cell.2.1
          have w_m8 := hcm.beq
          simp only [w_len, w_zc3, w_zN, w_z_1e, w_z_5e, w_m0, w_m5, w_m6, w_m7, ↓LA, LB, simprocAttr]
          refine pv_appP z_1 ?_ (elts_map fun a => elt_pat) sget_cons_eq ?_ ?_ ?_ ?_ ?_ fun chcw hcw => ?_
          · intro q hq; obtain ⟨h1, h2, h3⟩ := hq; simp (disch := omega) only [sget_cons_ne]; exact hf q (by omega)
          · rfl
          · omega
          · simp; omega
          · simp; omega
          · simp only [List.all_cons, List.all_nil, ic_str, w_m6, Bool.and_self]
          simp only [wrap_succ hz (by omega), List.length_map, w_len, w_65, w_9, w_zN, w_z_1V, w_m5, ↓LA, LB, simprocAttr]
          exact nx_intro (by refine ⟨_, by omega, z + 1, _, _, _, .arr (nxz + 14) 2 true 0 ((l[p].clauses[i].body.take z).length + 1), rfl, by omega, gp_more [PatT.d l[p].clauses[i].body[z]] (ys := [.d (.str l[p].clauses[i].body[z].name), xm]) hcw (by intro q hq h4; obtain ⟨h1, h2, h3⟩ := hq; simp (disch := omega) only [sget_cons_ne, sget_sset_nn, sget_grow_nn h4]; exact hf q (by omega)) (by intro q hq; exact ⟨hq.1, by have := hq.2.1; omega, trivial⟩) (by exact ⟨by omega, by omega, trivial⟩) (by intro hq; have := hq.2.1; omega) sget_cons_eq (by simp) (by rw [take_snoc hz, List.map_append]; rfl) (by exact ⟨CQ.str, CQ.mono (fun q hq => ⟨⟨by have := hq.1; omega, by have := hq.2; omega, trivial⟩, by have := hq.1; omega⟩) (CQ.frame (by intro q hq; obtain ⟨h1, h2⟩ := hq; simp (disch := omega) only [sget_cons_ne, sget_sset_nn, sget_grow_nn (z_1.away (j := q) (by omega))]) hcm), trivial⟩), z_2.frame (by intro q hq; obtain ⟨h1, h2, h3⟩ := hq; simp (disch := omega) only [sget_cons_ne, sget_sset_nn, sget_grow_nn (z_1.away (j := q) (by omega))]; exact hf q (by omega)), z_3.frame (by intro q hq; obtain ⟨h1, h2, h3⟩ := hq; simp (disch := omega) only [sget_cons_ne, sget_sset_nn, sget_grow_nn (z_1.away (j := q) (by omega))]; exact hf q (by omega)), (by intro q hq; simp (disch := omega) only [sget_cons_ne, sget_sset_nn, sget_grow_nn (z_1.away (j := q) (by omega))]; rw [hf q (by omega)]; exact z_4 q hq), z_5.frame (by intro q hq; obtain ⟨h1, h2, h3⟩ := hq; simp (disch := omega) only [sget_cons_ne, sget_sset_nn, sget_grow_nn (z_1.away (j := q) (by omega))]; exact hf q (by omega)), ?_, ?_, ?_, ?_, (by omega), Nat.zero_le _, ?_, ?_, ?_, ?_, ?_, ?_, ?_, ?_, ?_, ?_, ?_, ?_, ?_, ?_, rfl⟩ <;> simp only [w_len, w_2, w_3, w_14, w_15, w_16, w_34, w_35, w_36, w_8, w_9, w_63, w_64, w_zN, w_iN, w_z_1V, w_m1, w_m2, w_m4, w_m5, LB, simprocAttr])
        · have ht : l[p].clauses[i].body.take z = l[p].clauses[i].body := List.take_of_length_le (by omega)
          rw [ht] at z_1
          have hl3 : (l[p].clauses.take i).length ≤ l[p].clauses.length := by rw [List.length_take]; omega
          simp only [hz, w_len, w_65, w_3, w_9, w_64, w_zc1, w_zc3, w_z_1c, w_z_5c, ↓LA, LB, simprocAttr]
          refine pv_appP z_3 ?_ (elts_map fun a => elt_clause) sget_cons_eq ?_ ?_ ?_ ?_ ?_ fun chcc hcc => ?_
          · intro j hj; obtain ⟨h1, h2, h3⟩ := hj; simp (disch := omega) only [sget_cons_ne]
          · rfl
          · omega
          · simp; omega
          · simp; omega
          · simp only [List.all_cons, List.all_nil, ic_str, w_z_1c, w_z_5c, Bool.and_self]
          simp only [wrap_succ hi (by omega), List.length_map, w_len, w_3, w_36, w_zc1, w_zN, w_z_3V, ↓LA, LB, simprocAttr]
          have hmon1 : ∀ q, (nxi + 14 ≤ q ∧ q < nxk) → (n0 + 2 ≤ q ∧ q < nxz + 10 ∧ nxp + 17 ≠ q) ∧ q ≠ nxz + 5 := fun q hq => by omega
          have hmon2 : ∀ q, (nxk + 5 ≤ q ∧ q < nxz) → (n0 + 2 ≤ q ∧ q < nxz + 10 ∧ nxp + 17 ≠ q) ∧ q ≠ nxz + 5 := fun q hq => by omega
          exact nx_intro (by refine ⟨_, by omega, i + 1, _, _, _, .arr (nxz + 5) 3 true 0 ((allClauses (l.take p) ++ l[p].clauses.take i).length + 1), rfl, by omega, (z_2.frame (by intro q hq; obtain ⟨h1, h2, h3⟩ := hq; simp (disch := omega) only [sget_cons_ne, sget_sset_nn, sget_grow_nn (z_3.away (j := q) (by omega))])).mono (fun q hq => ⟨hq.1, by have := hq.2.1; omega, hq.2.2⟩), gp_more [ClauseT.d l[p].clauses[i]] (ys := [.d (.str l[p].clauses[i].rel), xw, xz]) hcc (by intro q hq h4; obtain ⟨h1, h2, h3⟩ := hq; simp (disch := omega) only [sget_cons_ne, sget_sset_nn, sget_grow_nn h4]) (by intro q hq; exact ⟨hq.1, by have := hq.2.1; omega, hq.2.2⟩) (by exact ⟨by omega, by omega, by omega⟩) (by intro hq; have := hq.2.1; omega) sget_cons_eq (by simp) (by rw [take_snoc hi]; simp only [List.map_append, List.map_cons, List.map_nil, List.append_assoc]) (by exact ⟨CQ.str, CQ.mono (fun q hq => hmon1 q ⟨hq.1, hq.2.1⟩) ((z_5.frame (by intro q hq; obtain ⟨h1, h2, h3⟩ := hq; simp (disch := omega) only [sget_cons_ne, sget_sset_nn, sget_grow_nn (z_3.away (j := q) (by omega))])).cv (by omega) (elts_map fun a => elt_pat)), CQ.mono (fun q hq => hmon2 q ⟨hq.1, hq.2.1⟩) ((z_1.frame (by intro q hq; obtain ⟨h1, h2, h3⟩ := hq; simp (disch := omega) only [sget_cons_ne, sget_sset_nn, sget_grow_nn (z_3.away (j := q) (by omega))])).cv (by omega) (elts_map fun a => elt_pat)), trivial⟩), (by intro q hq; simp (disch := omega) only [sget_cons_ne, sget_sset_nn, sget_grow_nn (z_3.away (j := q) (by omega))]; exact z_4 q hq), ?_, ?_, (by omega), Nat.zero_le _, ?_, ?_, ?_, ?_, ?_, ?_, ?_, ?_, ?_, rfl⟩ <;> simp only [w_len, w_2, w_3, w_14, w_15, w_16, w_34, w_35, w_zc0, w_zc1, w_zN, w_z_3V, LB, simprocAttr])
    · have ht : l[p].clauses.take i = l[p].clauses := List.take_of_length_le (by omega)
      rw [ht, ← allClauses_succ hp] at i_2
      have w_qz0 : sget si ka = some (.cells CA) := (i_3 ka hka).trans hCA
      simp only [hi, wrap_succ hp (by omega), w_len, w_36, w_16, w_35, ↓LA, LB, simprocAttr]
      exact nx_intro (by refine ⟨_, by omega, p + 1, _, _, _, .arr (nxp + 17) 3 true 0 ((allRels (l.take p)).length + l[p].rels.length), xc, rfl, by omega, i_1.mono (fun q hq => ⟨hq.1, by have := hq.2.1; omega, fun h => h hq.2.2⟩), i_2.mono (fun q hq => ⟨hq.1, by have := hq.2.1; omega, hq.2.2⟩), i_3, ?_, ?_, ?_, (by omega), Nat.zero_le _, ?_, ?_, ?_, ?_, ?_, ?_, rfl⟩ <;> simp only [w_len, w_2, w_3, w_14, w_15, w_ic0, w_ic1, w_qz0, LB, simprocAttr])
  · have ht : l.take p = l := List.take_of_length_le (by omega)
    rw [ht] at p_1 p_2
    simp only [hp, w_len, w_16, w_2, w_3, w_15, w_pc0, w_pc1, w_pS, w_p_1c, w_p_2c, ↓LA, LB, simprocAttr]
    exact ⟨xr, xc, rfl, by show n0 ≤ nxp + _; omega, (by intro q hq; simp (disch := omega) only [sget_sset_nn]; exact p_3 q hq), (p_1.frame (by intro q hq; obtain ⟨h1, h2, h3⟩ := hq; simp (disch := omega) only [sget_sset_nn])).mono (fun q hq => ⟨by have := hq.1; omega, by have := hq.2.1; show q < nxp + _; omega⟩), ((p_2.frame (by intro q hq; obtain ⟨h1, h2, h3⟩ := hq; simp (disch := omega) only [sget_sset_nn])).cv (by omega) (elts_map fun a => elt_clause)).mono (fun q hq => ⟨by have := hq.1; omega, by have := hq.2.1; show q < nxp + _; omega, hq.2.2⟩)⟩
end Go.Lift.K
