/- Part B6 of the proof. -/
import Derived.Test.YtedmfhgagnfbnaaGreatDoorB5
import Derived.Test.YtedmfhgagnfbnaaGreatDoorA7
set_option linter.all false
namespace Go.Lift.K
open Go Go.Lift
set_option maxRecDepth 100000
theorem vars_eq {n : Nat} : letters 0 n = tyVars n := by simp [letters, tyVars]
set_option maxHeartbeats 4000000 in
theorem ptyped_ok {t : TypeT} (ht : t.ok) {s : List (Nat × Obj)} {n0 lw : Nat} : PostV (callW G (.fn 17 [] []) [.d t.d] { s := s, next := n0, low := lw }) (LiveRes s n0 (specTyped t).1 (specTyped t).2) := by
  have hC := fun st => psort_ok ht st
  simp only [TypeT.d] at hC
  refine stay_pc (first := []) (args := [.d t.d]) (cap := []) T1.g17 rfl rfl rfl (fun e w_len harg => ?_)
  have w_len : e.length = 103 := w_len
  have w_0 : e.getD 0 .undef = .d t.d := harg 0 (by simp)
  clear harg
  by_cases h0 : specType t = 0
  · obtain ⟨hsl, hsa⟩ := type_right h0
    simp only [T1.i17, TypeT.d, hC, h0, w_len, w_0, ↓LA, LB, simprocAttr]
    refine lp_rounds (fun e0 s0 m env st => ∃ (i nxi lwi : Nat) (si : List (Nat × Obj)) (xr xc : V), m = t.sorts.length - i ∧ (i ≤ t.sorts.length) ∧ (GP si true (fun j => n0 + 10 ≤ j ∧ j < nxi ∧ ¬ away xr j) 0 3 true xr ((tyRels t i).map RelT.d)) ∧ (GP si true (fun j => n0 + 10 ≤ j ∧ j < nxi ∧ away xr j) 2 3 true xc ((tyClauses t i).map ClauseT.d)) ∧ (∀ q, q < n0 → sget si q = sget s q) ∧ sget si (n0 + 1) = some (.cells [.nilS, .nilS]) ∧ sget si (n0 + 9) = some (.cells [xr, xc]) ∧ n0 + 14 ≤ nxi ∧ 0 ≤ lwi ∧ env.length = 103 ∧ env.getD 24 .undef = .d (.int .i64 i) ∧ env.getD 2 .undef = .ptr (n0 + 1) 0 ∧ env.getD 5 .undef = .fn 63 [] [] ∧ env.getD 6 .undef = .ptr (n0 + 9) 0 ∧ env.getD 22 .undef = .d (.sl (t.sorts.map SortT.d)) ∧ env.getD 23 .undef = .d (.int .i64 t.sorts.length) ∧ st = { s := si, next := nxi, low := lwi }) ?_ (t.sorts.length) (by refine ⟨0, _, _, _, .nilS, .nilS, rfl, by omega, GP.nil, GP.nil, by intro q hq; simp (disch := omega) only [sget_cons_ne], ?_, ?_, (by omega), Nat.zero_le _, ?_, ?_, ?_, ?_, ?_, ?_, ?_, rfl⟩ <;> simp only [w_len, LB, simprocAttr])
    rintro m env st ⟨i, nxi, lwi, si, xr, xc, hm, a_0, a_1, a_2, a_3, w_ac0, w_ac1, w_ab, w_alo, w_len, w_24, w_2, w_5, w_6, w_22, w_23, rfl⟩
    have w_aN := And.intro (cf1 (x := nxi) (a := n0 + 1) (by omega)) (cf1 (x := nxi) (a := n0 + 9) (by omega))
    have w_aS := And.intro (cf2 (x := nxi) (by omega) w_ac0) (cf2 (x := nxi) (by omega) w_ac1)
    have w_aZ := zf (x := nxi) (b := n0) (n := 14) (by omega) (by omega)
    have w_a_1V := And.intro (a_1.away (j := n0 + 1) (by omega)) (And.intro (a_1.away (j := n0 + 9) (by omega)) (a_1.away (j := nxi + 4) (by omega)))
    have w_a_1c := a_1.cell.1
    have w_a_1d := a_1.cell.2
    have w_a_1e := a_1.beq
    have w_a_2V := And.intro (a_2.away (j := n0 + 1) (by omega)) (And.intro (a_2.away (j := n0 + 9) (by omega)) (a_2.away (j := nxi + 4) (by omega)))
    have w_a_2c := a_2.cell.1
    have w_a_2d := a_2.cell.2
    have w_a_2e := a_2.beq
    by_cases hi : i < t.sorts.length
    · have hs := hsa _ (List.getElem_mem hi)
      have hrel : tyRel t i = ⟨tyName i, 1, t.sorts[i].rank⟩ := by simp [tyRel, hi]
      have hsn := fun st => tyName1_ok (i := i) (by omega) st
      have hcl := tyClauses_le (fun s hs => (hsa s hs).1) (i := i) (by omega)
      have hcl1 := (ht.2.1 _ (List.getElem_mem hi)).2.1
      unfold LOk at hcl1
      simp only [hi, iaddr_sort hi, hsn, w_len, w_24, w_5, w_6, w_22, w_23, w_ac1, w_aN, w_a_1e, w_a_2e, ↓LA, LB, simprocAttr]
      refine pv_appP a_1 ?_ (elts_map fun a => elt_rel) sget_cons_eq ?_ ?_ ?_ ?_ ?_ fun chc0 hc0 => ?_
      · intro j hj; obtain ⟨h1, h2, h3⟩ := hj; simp (disch := omega) only [sget_cons_ne]
      · rfl
      · omega
      · simp [tyRels_len]; omega
      · simp [tyRels_len]; omega
      · exact rfl
      simp only [List.length_map, tyRels_len, w_len, w_6, w_ac1, w_aN, w_aZ, w_a_1V, ↓LA, LB, simprocAttr]
      refine lp_rounds (fun e0 s0 m env st => ∃ (k nxk lwk : Nat) (sk : List (Nat × Obj)) (xc : V), m = t.sorts[i].alts.length - k ∧ (k ≤ t.sorts[i].alts.length) ∧ (GP sk true (fun j => n0 + 10 ≤ j ∧ j < nxk ∧ nxi + 16 = j) 0 3 true (.arr (nxi + 16) 3 true 0 (i + 1)) ((tyRels t (i + 1)).map RelT.d)) ∧ (GP sk true (fun j => n0 + 10 ≤ j ∧ j < nxk ∧ nxi + 16 ≠ j) 2 3 true xc ((tyClauses t i ++ (t.sorts[i].alts.take k).map (tyClause i)).map ClauseT.d)) ∧ (∀ q, q < n0 → sget sk q = sget s q) ∧ sget sk (n0 + 1) = some (.cells [.nilS, .nilS]) ∧ sget sk (n0 + 9) = some (.cells [.arr (nxi + 16) 3 true 0 (i + 1), xc]) ∧ nxi + 23 ≤ nxk ∧ 0 ≤ lwk ∧ env.length = 103 ∧ env.getD 43 .undef = .d (.int .i64 k) ∧ env.getD 2 .undef = .ptr (n0 + 1) 0 ∧ env.getD 5 .undef = .fn 63 [] [] ∧ env.getD 6 .undef = .ptr (n0 + 9) 0 ∧ env.getD 22 .undef = .d (.sl (t.sorts.map SortT.d)) ∧ env.getD 23 .undef = .d (.int .i64 t.sorts.length) ∧ env.getD 24 .undef = .d (.int .i64 i) ∧ env.getD 7 .undef = .d (.int .i64 i) ∧ env.getD 41 .undef = .d (.sl (t.sorts[i].alts.map NodeT.d)) ∧ env.getD 42 .undef = .d (.int .i64 t.sorts[i].alts.length) ∧ st = { s := sk, next := nxk, low := lwk }) ?_ (t.sorts[i].alts.length) (by refine ⟨0, _, _, _, xc, rfl, by omega, gp_more0 [RelT.d ⟨tyName i, 1, t.sorts[i].rank⟩] hc0 (by exact ⟨by omega, by omega, rfl⟩) sget_cons_eq (by simp [tyRels_len]) (by rw [tyRels_succ, List.map_append, hrel]; rfl) (by exact ⟨CQ.str, CQ.int, CQ.int, trivial⟩), by simpa using (a_2.frame (by intro q hq; obtain ⟨h1, h2, h3⟩ := hq; simp (disch := omega) only [sget_cons_ne, sget_sset_nn, sget_grow_nn (h3)])).mono (fun j hj => ⟨hj.1, by have := hj.2.1; omega, by have := hj.2.1; omega⟩), by intro q hq; simp (disch := omega) only [sget_cons_ne, sget_sset_nn, sget_grow_nn (a_1.away (j := q) (by omega))]; exact a_3 q hq, ?_, ?_, (by omega), Nat.zero_le _, ?_, ?_, ?_, ?_, ?_, ?_, ?_, ?_, ?_, ?_, ?_, rfl⟩ <;> simp only [w_len, w_24, w_2, w_5, w_6, w_22, w_23, w_ac0, w_ac1, w_aN, w_a_1V, LB, simprocAttr])
      rintro m env st ⟨k, nxk, lwk, sk, xc, hm, b_0, b_1, b_2, b_3, w_bc0, w_bc1, w_bb, w_blo, w_len, w_43, w_2, w_5, w_6, w_22, w_23, w_24, w_7, w_41, w_42, rfl⟩
      have w_bN := And.intro (cf1 (x := nxk) (a := n0 + 1) (by omega)) (cf1 (x := nxk) (a := n0 + 9) (by omega))
      have w_bS := And.intro (cf2 (x := nxk) (by omega) w_bc0) (cf2 (x := nxk) (by omega) w_bc1)
      have w_bZ := And.intro (zf (x := nxk) (b := nxi) (n := 23) (by omega) (by omega)) (zf (x := nxk) (b := n0) (n := 14) (by omega) (by omega))
      have w_b_2V := And.intro (b_2.away (j := n0 + 1) (by omega)) (And.intro (b_2.away (j := n0 + 9) (by omega)) (b_2.away (j := nxi + 16) (by omega)))
      have w_b_2c := b_2.cell.1
      have w_b_2d := b_2.cell.2
      have w_b_2e := b_2.beq
      by_cases hk : k < t.sorts[i].alts.length
      · have hx := hs.2 _ (List.getElem_mem hk)
        have hxl := hx.1
        simp only [hk, iaddr_node hk, w_len, w_43, w_41, w_42, ↓LA, LB, simprocAttr]
        refine pv_post (letters_ok (b := 0) (n := t.sorts[i].alts[k].kids.length) (by omega)) ?_
        rintro xl ⟨sl, nxl, lwl⟩ ⟨hnl, hsl', hgl⟩
        simp only at hnl hsl' hgl
        rw [vars_eq] at hgl
        have w_b0 : ∀ j, j < nxk + 10 → sget sl j = sget ((nxk + 3, Obj.cells [.d (.str t.sorts[i].alts[k].name), .d (.sl (t.sorts[i].alts[k].kids.map (D.int .i64)))]) :: sk) j := fun j hj => hsl' j hj
        have hf0 : ∀ q, q < nxk → sget sl q = sget sk q := fun q hq => by rw [w_b0 q (by omega)]; simp (disch := omega) only [sget_cons_ne]
        have w_l1 : sget sl (nxk + 3) = some (.cells [.d (.str t.sorts[i].alts[k].name), .d (.sl (t.sorts[i].alts[k].kids.map (D.int .i64)))]) := by rw [w_b0 _ (by omega)]; exact sget_cons_eq
        have w_l2 : sget sl (n0 + 1) = some (.cells [.nilS, .nilS]) := by rw [hf0 _ (by omega)]; exact w_bc0
        have w_l3 : sget sl (n0 + 9) = some (.cells [.arr (nxi + 16) 3 true 0 (i + 1), xc]) := by rw [hf0 _ (by omega)]; exact w_bc1
        have w_l4 := hgl.cell.1
        have w_l5 := hgl.cell.2
        have w_l6 := hgl.beq
        have w_l7 := hgl.len
        simp only [List.length_map, tyVars_len] at w_l7
        have w_yZ := And.intro (zf (x := nxl) (b := nxk) (n := 10) (by omega) (by omega)) (And.intro (zf (x := nxl) (b := nxi) (n := 23) (by omega) (by omega)) (zf (x := nxl) (b := n0) (n := 14) (by omega) (by omega)))
        simp only [hsn, w_len, w_5, w_7, w_l1, w_l4, w_l5, w_l7, ↓LA, LB, simprocAttr]
        refine lp_rounds (fun e0 s0 m env st => ∃ (j nxj lwj : Nat) (sj : List (Nat × Obj)) (xb : V), m = t.sorts[i].alts[k].kids.length - j ∧ (j ≤ t.sorts[i].alts[k].kids.length) ∧ (GP sj true (fun q => nxk + 10 ≤ q ∧ q < nxl ∧ True) 0 1 false xl ((tyVars t.sorts[i].alts[k].kids.length).map D.str)) ∧ (GP sj true (fun q => nxl + 14 ≤ q ∧ q < nxj ∧ True) 1 2 true xb (((List.range j).map (tyAtom t.sorts[i].alts[k])).map PatT.d)) ∧ (GP sj true (fun q => n0 + 10 ≤ q ∧ q < nxk ∧ nxi + 16 = q) 0 3 true (.arr (nxi + 16) 3 true 0 (i + 1)) ((tyRels t (i + 1)).map RelT.d)) ∧ (GP sj true (fun q => n0 + 10 ≤ q ∧ q < nxk ∧ nxi + 16 ≠ q) 2 3 true xc ((tyClauses t i ++ (t.sorts[i].alts.take k).map (tyClause i)).map ClauseT.d)) ∧ (∀ q, q < n0 → sget sj q = sget s q) ∧ sget sj (n0 + 1) = some (.cells [.nilS, .nilS]) ∧ sget sj (n0 + 9) = some (.cells [.arr (nxi + 16) 3 true 0 (i + 1), xc]) ∧ sget sj (nxk + 3) = some (.cells [.d (.str t.sorts[i].alts[k].name), .d (.sl (t.sorts[i].alts[k].kids.map (D.int .i64)))]) ∧ sget sj (nxl + 7) = some (.cells [.d (.str t.sorts[i].alts[k].name), xl]) ∧ sget sj (nxl + 9) = some (.cells [.d (.str (tyName i)), .arr (nxl + 7) 2 true 0 1, xb]) ∧ nxl + 14 ≤ nxj ∧ 0 ≤ lwj ∧ env.length = 103 ∧ env.getD 62 .undef = .d (.int .i64 j) ∧ env.getD 2 .undef = .ptr (n0 + 1) 0 ∧ env.getD 5 .undef = .fn 63 [] [] ∧ env.getD 6 .undef = .ptr (n0 + 9) 0 ∧ env.getD 22 .undef = .d (.sl (t.sorts.map SortT.d)) ∧ env.getD 23 .undef = .d (.int .i64 t.sorts.length) ∧ env.getD 24 .undef = .d (.int .i64 i) ∧ env.getD 7 .undef = .d (.int .i64 i) ∧ env.getD 41 .undef = .d (.sl (t.sorts[i].alts.map NodeT.d)) ∧ env.getD 42 .undef = .d (.int .i64 t.sorts[i].alts.length) ∧ env.getD 43 .undef = .d (.int .i64 k) ∧ env.getD 10 .undef = .ptr (nxk + 3) 0 ∧ env.getD 12 .undef = .ptr (nxl + 9) 0 ∧ env.getD 60 .undef = xl ∧ env.getD 61 .undef = .d (.int .i64 t.sorts[i].alts[k].kids.length) ∧ st = { s := sj, next := nxj, low := lwj }) ?_ (t.sorts[i].alts[k].kids.length) (by refine ⟨0, _, _, _, .nilS, rfl, by omega, (hgl.mono (fun q hq => ⟨hq.1, hq.2, trivial⟩)).frame (by intro q hq; obtain ⟨h1, h2, h3⟩ := hq; simp (disch := omega) only [sget_cons_ne]), GP.nil, b_1.frame (by intro q hq; obtain ⟨h1, h2, h3⟩ := hq; simp (disch := omega) only [sget_cons_ne]; exact hf0 q (by omega)), b_2.frame (by intro q hq; obtain ⟨h1, h2, h3⟩ := hq; simp (disch := omega) only [sget_cons_ne]; exact hf0 q (by omega)), by intro q hq; simp (disch := omega) only [sget_cons_ne]; rw [hf0 q (by omega)]; exact b_3 q hq, ?_, ?_, ?_, ?_, ?_, (by omega), Nat.zero_le _, ?_, ?_, ?_, ?_, ?_, ?_, ?_, ?_, ?_, ?_, ?_, ?_, ?_, ?_, ?_, ?_, rfl⟩ <;> simp only [w_len, w_43, w_2, w_5, w_6, w_22, w_23, w_24, w_7, w_41, w_42, w_l1, w_l2, w_l3, w_yZ, LB, simprocAttr])
        rintro m env st ⟨j, nxj, lwj, sj, xb, hm, c_0, c_1, c_2, c_3, c_4, c_5, w_cc0, w_cc1, w_cc2, w_cc3, w_cc4, w_cb, w_clo, w_len, w_62, w_2, w_5, w_6, w_22, w_23, w_24, w_7, w_41, w_42, w_43, w_10, w_12, w_60, w_61, rfl⟩
        have w_cN := And.intro (cf1 (x := nxj) (a := n0 + 1) (by omega)) (And.intro (cf1 (x := nxj) (a := n0 + 9) (by omega)) (And.intro (cf1 (x := nxj) (a := nxk + 3) (by omega)) (And.intro (cf1 (x := nxj) (a := nxl + 7) (by omega)) (cf1 (x := nxj) (a := nxl + 9) (by omega)))))
        have w_cS := And.intro (cf2 (x := nxj) (by omega) w_cc0) (And.intro (cf2 (x := nxj) (by omega) w_cc1) (And.intro (cf2 (x := nxj) (by omega) w_cc2) (And.intro (cf2 (x := nxj) (by omega) w_cc3) (cf2 (x := nxj) (by omega) w_cc4))))
        have w_cZ := And.intro (zf (x := nxj) (b := nxl) (n := 14) (by omega) (by omega)) (And.intro (zf (x := nxj) (b := nxk) (n := 10) (by omega) (by omega)) (And.intro (zf (x := nxj) (b := nxi) (n := 23) (by omega) (by omega)) (zf (x := nxj) (b := n0) (n := 14) (by omega) (by omega))))
        have w_c_1V := And.intro (c_1.away (j := n0 + 1) (by omega)) (And.intro (c_1.away (j := n0 + 9) (by omega)) (And.intro (c_1.away (j := nxk + 3) (by omega)) (And.intro (c_1.away (j := nxl + 7) (by omega)) (c_1.away (j := nxl + 9) (by omega)))))
        have w_c_1c := c_1.cell.1
        have w_c_1d := c_1.cell.2
        have w_c_1e := c_1.beq
        have w_c_2V := And.intro (c_2.away (j := n0 + 1) (by omega)) (And.intro (c_2.away (j := n0 + 9) (by omega)) (And.intro (c_2.away (j := nxk + 3) (by omega)) (And.intro (c_2.away (j := nxl + 7) (by omega)) (c_2.away (j := nxl + 9) (by omega)))))
        have w_c_2c := c_2.cell.1
        have w_c_2d := c_2.cell.2
        have w_c_2e := c_2.beq
        have w_c_4V := And.intro (c_4.away (j := n0 + 1) (by omega)) (And.intro (c_4.away (j := n0 + 9) (by omega)) (And.intro (c_4.away (j := nxk + 3) (by omega)) (And.intro (c_4.away (j := nxl + 7) (by omega)) (c_4.away (j := nxl + 9) (by omega)))))
        have w_c_4c := c_4.cell.1
        have w_c_4d := c_4.cell.2
        have w_c_4e := c_4.beq
        by_cases hj : j < t.sorts[i].alts[k].kids.length
        · have hkd := kid_nat (hx.2.2 _ (List.getElem_mem hj))
          have hkn : ∀ st, callW G (.fn 63 [] []) [.d (.int .i64 t.sorts[i].alts[k].kids[j])] st = some (.d (.str (tyName t.sorts[i].alts[k].kids[j].toNat)), st) := fun st => by
            have := tyName1_ok (i := t.sorts[i].alts[k].kids[j].toNat) (by omega) st
            rwa [← hkd.1] at this
          have hatom : tyAtom t.sorts[i].alts[k] j = ⟨tyName t.sorts[i].alts[k].kids[j].toNat, [[97 + j]]⟩ := by simp [tyAtom, hj]
          obtain ⟨kl, csl, hxe, hkl1, hkl2, hkl3, hkl4, hkl5, hkl6⟩ := c_1.strAt (j := j) (by rw [tyVars_len]; exact hj)
          have hkv : (tyVars t.sorts[i].alts[k].kids.length)[j]'(by rw [tyVars_len]; exact hj) = [97 + j] := by simp [tyVars]
          rw [hkv] at hkl6
          have hne : ∀ a, (nxj + a = kl) = False := fun a => by have := hkl1.2.1; simp; omega
          simp only [hj, iaddr_int hj, hkn, hkl2, hkl4, hkl5, hkl6, w_len, w_62, w_5, w_10, w_12, w_60, w_61, w_cc2, w_cc4, w_cN, w_c_2e, ↓LA, LB, simprocAttr]
          refine pv_appP c_2 ?_ (elts_map fun a => elt_pat) sget_cons_eq ?_ ?_ ?_ ?_ ?_ fun chcb hcb => ?_
          · intro j hj; obtain ⟨h1, h2, h3⟩ := hj; simp (disch := omega) only [sget_cons_ne]
          · rfl
          · omega
          · simp; omega
          · simp; omega
          · exact rfl
          simp only [wrap_succ hj (by omega), List.length_map, List.length_range, w_len, w_62, w_12, w_cc4, w_cN, w_c_2V, ↓LA, LB, simprocAttr]
          exact nx_intro (by refine ⟨_, by omega, j + 1, _, _, _, .arr (nxj + 19) 2 true 0 (j + 1), rfl, by omega, c_1.frame (by intro q hq; obtain ⟨h1, h2, h3⟩ := hq; simp (disch := omega) only [sget_cons_ne, sget_sset_nn, sget_grow_nn (c_2.away (j := q) (by omega))]), gp_more [PatT.d ⟨tyName t.sorts[i].alts[k].kids[j].toNat, [[97 + j]]⟩] (ys := [.d (.str (tyName t.sorts[i].alts[k].kids[j].toNat)), .arr (nxj + 16) 1 false 0 1]) hcb (by intro q hq h4; obtain ⟨h1, h2, h3⟩ := hq; simp (disch := omega) only [sget_cons_ne, sget_sset_nn, sget_grow_nn h4]) (by intro q hq; exact ⟨hq.1, by have := hq.2.1; omega, trivial⟩) (by exact ⟨by omega, by omega, trivial⟩) (by intro hq; have := hq.2.1; omega) sget_cons_eq (by simp) (by rw [List.range_succ, List.map_append, List.map_append, ← hatom]; rfl) (by exact ⟨CQ.str, cq_arr [D.str [97 + j]] (cs := [.d (.str [97 + j])]) (by exact ⟨⟨by omega, by omega, trivial⟩, by omega⟩) (by simp (disch := omega) only [sget_cons_ne, sget_cons_eq, sget_sset_nn, sget_grow_nn (c_2.away (j := nxj + 16) (by omega))]) (by omega) (by intro x hx; simp at hx; subst hx; exact elt_str) rfl (by exact ⟨CQ.str, trivial⟩), trivial⟩), c_3.frame (by intro q hq; obtain ⟨h1, h2, h3⟩ := hq; simp (disch := omega) only [sget_cons_ne, sget_sset_nn, sget_grow_nn (c_2.away (j := q) (by omega))]), c_4.frame (by intro q hq; obtain ⟨h1, h2, h3⟩ := hq; simp (disch := omega) only [sget_cons_ne, sget_sset_nn, sget_grow_nn (c_2.away (j := q) (by omega))]), (by intro q hq; simp (disch := omega) only [sget_cons_ne, sget_sset_nn, sget_grow_nn (c_2.away (j := q) (by omega))]; exact c_5 q hq), ?_, ?_, ?_, ?_, ?_, (by omega), Nat.zero_le _, ?_, ?_, ?_, ?_, ?_, ?_, ?_, ?_, ?_, ?_, ?_, ?_, ?_, ?_, ?_, ?_, rfl⟩ <;> simp only [w_len, w_2, w_5, w_6, w_22, w_23, w_24, w_7, w_41, w_42, w_43, w_10, w_12, w_60, w_61, w_cc0, w_cc1, w_cc2, w_cc3, w_cc4, w_cN, w_yZ, w_c_2V, LB, simprocAttr])
        · have hjn : j = t.sorts[i].alts[k].kids.length := by omega
          rw [hjn] at c_2
          simp only [hj, w_len, w_62, w_6, w_12, w_61, w_cc1, w_cc4, w_c_2c, ↓LA, LB, simprocAttr]
          refine pv_appP c_4 ?_ (elts_map fun a => elt_clause) sget_cons_eq ?_ ?_ ?_ ?_ ?_ fun chcc hcc => ?_
          · intro j hj; obtain ⟨h1, h2, h3⟩ := hj; simp (disch := omega) only [sget_cons_ne]
          · rfl
          · omega
          · simp; omega
          · simp; omega
          · simp only [List.all_cons, List.all_nil, ic_str, ic_arr, w_c_2c, Bool.and_self]
          simp only [wrap_succ hk (by omega), List.length_map, w_len, w_6, w_43, w_cc1, w_cN, w_c_4V, ↓LA, LB, simprocAttr]
          have hmon1 : ∀ q, (nxk + 10 ≤ q ∧ q < nxl) → (n0 + 10 ≤ q ∧ q < nxj + 10 ∧ nxi + 16 ≠ q) ∧ q ≠ nxj + 5 := fun q hq => by omega
          have hmon2 : ∀ q, (nxl + 14 ≤ q ∧ q < nxj) → (n0 + 10 ≤ q ∧ q < nxj + 10 ∧ nxi + 16 ≠ q) ∧ q ≠ nxj + 5 := fun q hq => by omega
          exact nx_intro (by refine ⟨_, by omega, k + 1, _, _, _, .arr (nxj + 5) 3 true 0 ((tyClauses t i ++ (t.sorts[i].alts.take k).map (tyClause i)).length + 1), rfl, by omega, (c_3.frame (by intro q hq; obtain ⟨h1, h2, h3⟩ := hq; simp (disch := omega) only [sget_cons_ne, sget_sset_nn, sget_grow_nn (c_4.away (j := q) (by omega))])).mono (fun q hq => ⟨hq.1, by have := hq.2.1; omega, hq.2.2⟩), gp_more [ClauseT.d (tyClause i t.sorts[i].alts[k])] (ys := [.d (.str (tyName i)), .arr (nxl + 7) 2 true 0 1, xb]) hcc (by intro q hq h4; obtain ⟨h1, h2, h3⟩ := hq; simp (disch := omega) only [sget_cons_ne, sget_sset_nn, sget_grow_nn h4]) (by intro q hq; exact ⟨hq.1, by have := hq.2.1; omega, hq.2.2⟩) (by exact ⟨by omega, by omega, by omega⟩) (by intro hq; have := hq.2.1; omega) sget_cons_eq (by simp) (by rw [take_snoc hk]; simp only [List.map_append, List.map_cons, List.map_nil, List.append_assoc]) (by exact ⟨CQ.str, cq_arr [PatT.d ⟨t.sorts[i].alts[k].name, tyVars t.sorts[i].alts[k].kids.length⟩] (cs := [.d (.str t.sorts[i].alts[k].name), xl]) (by exact ⟨⟨by omega, by omega, by omega⟩, by omega⟩) (by simp (disch := omega) only [sget_cons_ne, sget_sset_nn, sget_grow_nn (c_4.away (j := nxl + 7) (by omega)), w_cc3]) (by omega) (by intro x hx; simp at hx; subst hx; exact elt_pat) rfl (by exact ⟨CQ.str, CQ.mono (fun q hq => hmon1 q ⟨hq.1, hq.2.1⟩) ((c_1.frame (by intro q hq; obtain ⟨h1, h2, h3⟩ := hq; simp (disch := omega) only [sget_cons_ne, sget_sset_nn, sget_grow_nn (c_4.away (j := q) (by omega))])).cv (by omega) (elts_map fun a => elt_str)), trivial⟩), CQ.mono (fun q hq => hmon2 q ⟨hq.1, hq.2.1⟩) ((c_2.frame (by intro q hq; obtain ⟨h1, h2, h3⟩ := hq; simp (disch := omega) only [sget_cons_ne, sget_sset_nn, sget_grow_nn (c_4.away (j := q) (by omega))])).cv (by omega) (elts_map fun a => elt_pat)), trivial⟩), (by intro q hq; simp (disch := omega) only [sget_cons_ne, sget_sset_nn, sget_grow_nn (c_4.away (j := q) (by omega))]; exact c_5 q hq), ?_, ?_, (by omega), Nat.zero_le _, ?_, ?_, ?_, ?_, ?_, ?_, ?_, ?_, ?_, ?_, ?_, rfl⟩ <;> simp only [w_len, w_2, w_5, w_6, w_22, w_23, w_24, w_7, w_41, w_42, w_cc0, w_cc1, w_cN, w_c_4V, LB, simprocAttr])
      · have ht : t.sorts[i].alts.take k = t.sorts[i].alts := List.take_of_length_le (by omega)
        rw [ht, ← tyClauses_succ hi] at b_2
        simp only [hk, wrap_succ hi (by omega), w_len, w_43, w_24, w_42, ↓LA, LB, simprocAttr]
        exact nx_intro (by refine ⟨_, by omega, i + 1, _, _, _, .arr (nxi + 16) 3 true 0 (i + 1), xc, rfl, by omega, b_1.mono (fun q hq => ⟨hq.1, by have := hq.2.1; omega, fun h => h hq.2.2⟩), b_2.mono (fun q hq => ⟨hq.1, by have := hq.2.1; omega, hq.2.2⟩), b_3, ?_, ?_, (by omega), Nat.zero_le _, ?_, ?_, ?_, ?_, ?_, ?_, ?_, rfl⟩ <;> simp only [w_len, w_2, w_5, w_6, w_22, w_23, w_bc0, w_bc1, LB, simprocAttr])
    · have hin : i = t.sorts.length := by omega
      rw [hin] at a_1 a_2
      have hl1 := a_1.len
      have hl2 := a_2.len
      simp only [List.length_map, tyRels_len] at hl1 hl2
      by_cases h8 : (8 : Int) < t.sorts.length
      · have hS : specTyped t = (⟨[], []⟩, 2) := by rw [specTyped, if_neg (not_not_intro h0), if_pos (.inl h8)]
        simp only [hi, hl1, h8, w_len, w_24, w_2, w_6, w_23, w_ac0, w_ac1, w_aS, ↓LA, LB, simprocAttr]
        rw [hS]
        exact ⟨.nilS, .nilS, rfl, by show n0 ≤ nxi + 14; omega, (by intro q hq; simp (disch := omega) only [sget_sset_nn]; exact a_3 q hq), CQ.nil, CQ.nil⟩
      · by_cases h24 : (24 : Int) < (tyClauses t t.sorts.length).length
        · have hS : specTyped t = (⟨[], []⟩, 2) := by rw [specTyped, if_neg (not_not_intro h0), if_pos (.inr h24)]
          simp only [hi, hl1, hl2, h8, h24, w_len, w_24, w_2, w_6, w_23, w_ac0, w_ac1, w_aS, ↓LA, LB, simprocAttr]
          rw [hS]
          exact ⟨.nilS, .nilS, rfl, by show n0 ≤ nxi + 14; omega, (by intro q hq; simp (disch := omega) only [sget_sset_nn]; exact a_3 q hq), CQ.nil, CQ.nil⟩
        · have hS : specTyped t = (⟨tyRels t t.sorts.length, tyClauses t t.sorts.length⟩, 0) := by rw [specTyped, if_neg (not_not_intro h0), if_neg (fun h => h.elim h8 h24)]
          simp only [hi, hl1, hl2, h8, h24, w_len, w_24, w_2, w_6, w_23, w_ac0, w_ac1, w_aS, w_a_1c, w_a_2c, ↓LA, LB, simprocAttr]
          rw [hS]
          exact ⟨xr, xc, rfl, by show n0 ≤ nxi + 14; omega, (by intro q hq; simp (disch := omega) only [sget_sset_nn]; exact a_3 q hq), ((a_1.frame (by intro q hq; obtain ⟨h1, h2, h3⟩ := hq; simp (disch := omega) only [sget_sset_nn])).cv (by omega) (elts_map fun a => elt_rel)).mono (fun q hq => ⟨by have := hq.1; omega, by have := hq.2.1; show q < nxi + 14; omega⟩), ((a_2.frame (by intro q hq; obtain ⟨h1, h2, h3⟩ := hq; simp (disch := omega) only [sget_sset_nn])).cv (by omega) (elts_map fun a => elt_clause)).mono (fun q hq => ⟨by have := hq.1; omega, by have := hq.2.1; show q < nxi + 14; omega⟩)⟩
  · have hS : specTyped t = (⟨[], []⟩, specType t) := if_pos h0
    simp only [T1.i17, TypeT.d, hC, h0, w_len, w_0, ↓LA, LB, simprocAttr]
    rw [hS]
    exact ⟨.nilS, .nilS, rfl, Nat.le_add_right _ _, (by intro q hq; simp (disch := omega) only [sget_cons_ne]), CQ.nil, CQ.nil⟩
end Go.Lift.K
namespace Go.Lift.K
open Go Go.Lift
set_option maxRecDepth 100000
def sameS : List Nat := [115, 97, 109, 101]
def eqAtom (j : Nat) : PatT := ⟨sameS, [[97 + j], [101 + j]]⟩
def eqClause (x : List Nat) (n : Nat) : ClauseT := ⟨sameS, [⟨x, letters 0 n⟩, ⟨x, letters 4 n⟩], (List.range n).map eqAtom⟩
def eqErr (names : List (List Nat)) (kids : List Int) (i : Nat) : Int := if isName (names.getD i []) = false then 4 else if kids.getD i 0 < 0 ∨ 4 < kids.getD i 0 then 3 else 0
def eqClauses (names : List (List Nat)) (kids : List Int) (n : Nat) : List ClauseT := (List.range n).map fun i => eqClause (names.getD i []) (kids.getD i 0).toNat
def eqRel : RelT := ⟨sameS, 2, 1⟩
def specEq (names : List (List Nat)) (kids : List Int) : RulesT × Int := if (names.length : Int) ≠ kids.length then (⟨[], []⟩, 7) else if (24 : Int) < names.length then (⟨[], []⟩, 2) else
  if firstN (eqErr names kids) names.length ≠ 0 then (⟨[], []⟩, firstN (eqErr names kids) names.length) else (⟨[eqRel], eqClauses names kids names.length⟩, 0)
theorem eqClauses_succ {names : List (List Nat)} {kids : List Int} {i : Nat} (h1 : i < names.length) (h2 : i < kids.length) : eqClauses names kids (i + 1) = eqClauses names kids i ++ [eqClause names[i] kids[i].toNat] := by
  simp [eqClauses, List.range_succ, h1, h2]
theorem eqClauses_len {names : List (List Nat)} {kids : List Int} {i : Nat} : (eqClauses names kids i).length = i := by simp [eqClauses]
theorem efgh_at {i : Nat} (hi : i < 4) {k k' : IntKind} {st : St} : sliceSV (.d (.str [101, 102, 103, 104])) (some (.d (.int k i))) (some (.d (.int k' ((i + 1 : Nat) : Int)))) st = some (.d (.str [101 + i]), st) := by
  have : ∀ i : Fin 4, ([101, 102, 103, 104] : List Nat)[i.val]'i.isLt = 101 + i.val := by decide
  rw [slice_at (by simpa using hi), this ⟨i, hi⟩]
theorem eqErr_at {names : List (List Nat)} {kids : List Int} {i : Nat} (h1 : i < names.length) (h2 : i < kids.length) : eqErr names kids i = if isName names[i] = false then 4 else if kids[i] < 0 ∨ 4 < kids[i] then 3 else 0 := by
  simp [eqErr, h1, h2]
end Go.Lift.K
namespace Go.Lift.K
open Go Go.Lift
set_option maxRecDepth 100000
set_option maxHeartbeats 4000000 in
theorem eq12_ok {names : List (List Nat)} {kids : List Int} (hs : SsOk names) (hk : LOk kids) (st : St) : callW G (.fn 14 [] []) [.d (.sl (names.map D.str)), .d (.sl (kids.map (D.int .i64)))] st = some (.tup [.d (specEq names kids).1.d, .d (.int .i64 (specEq names kids).2)], st) := by
  have hsl := hs.1
  unfold LOk at hsl hk
  refine pure_pc (ds := [.sl (names.map D.str), .sl (kids.map (D.int .i64))]) (rs := [(specEq names kids).1.d, .int .i64 (specEq names kids).2]) T1.g14 rfl rfl (fun e w_len harg => ?_) st
  have w_len : e.length = 112 := w_len
  have w_0 := harg 0 (by simp)
  have w_1 := harg 1 (by simp)
  clear harg
  simp only [List.map_cons, List.map_nil, List.getD_cons_zero, List.getD_cons_succ] at w_0 w_1
  by_cases h1 : (names.length : Int) = kids.length
  · by_cases h2 : (24 : Int) < names.length
    · have hS : specEq names kids = (⟨[], []⟩, 2) := by rw [specEq, if_neg (not_not_intro h1), if_pos h2]
      have h2' : (24 : Int) < kids.length := by omega
      simp only [T1.i14, h1, h2', w_len, w_0, w_1, ↓LA, LB, simprocAttr]
      exact rql2 (snap_mk (lv := false) (lo := 0) (n := 1) (hi := 0) (m := 11) (ds := [.sl [], .sl []]) (by omega) (by decide) ⟨CV.nil, CV.nil, trivial⟩) rfl (by rw [hS]; rfl)
    · have hS := show specEq names kids = _ from by rw [specEq, if_neg (not_not_intro h1), if_neg h2]
      have h2' : ¬ (24 : Int) < kids.length := by omega
      have hlen : names.length = kids.length := by omega
      simp only [T1.i14, h1, h2', w_len, w_0, w_1, ↓LA, LB, simprocAttr]
      refine lp_rounds (fun e0 s0 m env st => ∃ (i nxi lwi : Nat) (si : List (Nat × Obj)) (xc : V), m = names.length - i ∧ (i ≤ names.length) ∧ (GP si false (fun q => 16 ≤ q ∧ q < nxi ∧ True) 2 3 true xc ((eqClauses names kids i).map ClauseT.d)) ∧ (∀ j, j < i → eqErr names kids j = 0) ∧ sget si (0) = some (.cells [.nilS, .nilS]) ∧ sget si (11) = some (.cells [.d (.str [115, 97, 109, 101]), .d (.int .i64 2), .d (.int .i64 1)]) ∧ sget si (13) = some (.cells [.arr 11 3 true 0 1, xc]) ∧ 16 ≤ nxi ∧ 0 ≤ lwi ∧ env.length = 112 ∧ env.getD 7 .undef = .d (.int .i64 i) ∧ env.getD 0 .undef = .d (.sl (names.map D.str)) ∧ env.getD 1 .undef = .d (.sl (kids.map (D.int .i64))) ∧ env.getD 4 .undef = .ptr 0 0 ∧ env.getD 6 .undef = .ptr 13 0 ∧ st = { s := si, next := nxi, low := lwi }) ?_ (names.length) (by refine ⟨0, _, _, _, .nilS, rfl, by omega, GP.nil, by omega, ?_, ?_, ?_, (by omega), Nat.zero_le _, ?_, ?_, ?_, ?_, ?_, ?_, rfl⟩ <;> simp only [w_len, w_0, w_1, LB, simprocAttr])
      rintro m env st ⟨i, nxi, lwi, si, xc, hm, a_0, a_1, a_2, w_ac0, w_ac1, w_ac2, w_ab, w_alo, w_len, w_7, w_0, w_1, w_4, w_6, rfl⟩
      have w_aN := And.intro (cf1 (x := nxi) (a := 0) (by omega)) (And.intro (cf1 (x := nxi) (a := 11) (by omega)) (cf1 (x := nxi) (a := 13) (by omega)))
      have w_aS := And.intro (cf2 (x := nxi) (by omega) w_ac0) (And.intro (cf2 (x := nxi) (by omega) w_ac1) (cf2 (x := nxi) (by omega) w_ac2))
      have w_aZ := zf0 (x := nxi) (n := 16) (by omega)
      have w_a_1V := And.intro (a_1.away (j := 0) (by omega)) (And.intro (a_1.away (j := 11) (by omega)) (a_1.away (j := 13) (by omega)))
      have w_a_1c := a_1.cell.1
      have w_a_1d := a_1.cell.2
      have w_a_1e := a_1.beq
      by_cases hi : i < names.length
      · have hi2 : i < kids.length := by omega
        have hM := fun st => named01_ok (hs.2 _ (List.getElem_mem hi)) st
        have hE := eqErr_at hi hi2
        cases h3 : isName names[i] with
        | false =>
          rw [h3, if_pos rfl] at hE
          have hF := firstN_at hi a_2 (by rw [hE]; omega)
          rw [hF, hE, if_pos (by omega)] at hS
          simp only [hi, iaddr_str hi, hM, h3, w_len, w_7, w_0, w_4, w_ac0, w_aS, ↓LA, LB, simprocAttr]
          exact rql2 (snap_mk (lv := false) (lo := 0) (n := 1) (hi := 0) (m := 11) (ds := [.sl [], .sl []]) (by omega) (by decide) ⟨CV.nil, CV.nil, trivial⟩) rfl (by rw [hS]; rfl)
        | true =>
          rw [h3, if_neg (by simp)] at hE
          by_cases h4 : kids[i] < 0 ∨ 4 < kids[i]
          · rw [if_pos h4] at hE
            have hF := firstN_at hi a_2 (by rw [hE]; omega)
            rw [hF, hE, if_pos (by omega)] at hS
            simp only [hi, iaddr_str hi, iaddr_int hi2, hM, h3, off12_ok, or_iff_dec, h4, w_len, w_7, w_0, w_1, w_4, w_ac0, w_aS, ↓LA, LB, simprocAttr]
            exact rql2 (snap_mk (lv := false) (lo := 0) (n := 1) (hi := 0) (m := 11) (ds := [.sl [], .sl []]) (by omega) (by decide) ⟨CV.nil, CV.nil, trivial⟩) rfl (by rw [hS]; rfl)
          · rw [if_neg h4] at hE
            obtain ⟨n, hn⟩ : ∃ n : Nat, kids[i] = n := ⟨kids[i].toNat, by omega⟩
            have hn4 : n ≤ 4 := by omega
            have h4' : ¬ ((n : Int) < 0 ∨ 4 < (n : Int)) := by omega
            simp only [hi, iaddr_str hi, iaddr_int hi2, hn, hM, h3, off12_ok, or_iff_dec, h4', w_len, w_7, w_0, w_1, ↓LA, LB, simprocAttr]
            refine lp_rounds (fun e0 s0 m env st => ∃ (j nxj lwj : Nat) (sj : List (Nat × Obj)) (xv xw xb : V), m = n - j ∧ (j ≤ n) ∧ (GP sj false (fun q => nxi + 30 ≤ q ∧ q < nxj ∧ ¬ away xv q) 0 1 false xv ((letters 0 j).map D.str)) ∧ (GP sj false (fun q => nxi + 30 ≤ q ∧ q < nxj ∧ ¬ away xw q) 0 1 false xw ((letters 4 j).map D.str)) ∧ (GP sj false (fun q => nxi + 30 ≤ q ∧ q < nxj ∧ (away xv q ∧ away xw q)) 1 2 true xb (((List.range j).map eqAtom).map PatT.d)) ∧ (GP sj false (fun q => 16 ≤ q ∧ q < nxi ∧ True) 2 3 true xc ((eqClauses names kids i).map ClauseT.d)) ∧ (∀ q, away xv q ∨ away xw q) ∧ sget sj (0) = some (.cells [.nilS, .nilS]) ∧ sget sj (11) = some (.cells [.d (.str [115, 97, 109, 101]), .d (.int .i64 2), .d (.int .i64 1)]) ∧ sget sj (13) = some (.cells [.arr 11 3 true 0 1, xc]) ∧ sget sj (nxi + 25) = some (.cells [.d (.str names[i]), xv, .d (.str names[i]), xw]) ∧ sget sj (nxi + 27) = some (.cells [.d (.str [115, 97, 109, 101]), .arr (nxi + 25) 2 true 0 2, xb]) ∧ nxi + 30 ≤ nxj ∧ 0 ≤ lwj ∧ env.length = 112 ∧ env.getD 9 .undef = .d (.int .i64 j) ∧ env.getD 0 .undef = .d (.sl (names.map D.str)) ∧ env.getD 1 .undef = .d (.sl (kids.map (D.int .i64))) ∧ env.getD 4 .undef = .ptr 0 0 ∧ env.getD 6 .undef = .ptr 13 0 ∧ env.getD 7 .undef = .d (.int .i64 i) ∧ env.getD 8 .undef = .ptr (nxi + 27) 0 ∧ st = { s := sj, next := nxj, low := lwj }) ?_ (n) (by refine ⟨0, _, _, _, .nilS, .nilS, .nilS, rfl, by omega, GP.nil, GP.nil, GP.nil, a_1.frame (by intro q hq; obtain ⟨h1, h2, h3⟩ := hq; simp (disch := omega) only [sget_cons_ne]), fun q => .inl trivial, ?_, ?_, ?_, ?_, ?_, (by omega), Nat.zero_le _, ?_, ?_, ?_, ?_, ?_, ?_, ?_, ?_, rfl⟩ <;> simp only [w_len, w_7, w_0, w_1, w_4, w_6, w_ac0, w_ac1, w_ac2, w_aN, LB, simprocAttr])
            rintro m env st ⟨j, nxj, lwj, sj, xv, xw, xb, hm, c_0, c_1, c_2, c_3, c_4, c_5, w_cc0, w_cc1, w_cc2, w_cc3, w_cc4, w_cb, w_clo, w_len, w_9, w_0, w_1, w_4, w_6, w_7, w_8, rfl⟩
            have w_cN := And.intro (cf1 (x := nxj) (a := 0) (by omega)) (And.intro (cf1 (x := nxj) (a := 11) (by omega)) (And.intro (cf1 (x := nxj) (a := 13) (by omega)) (And.intro (cf1 (x := nxj) (a := nxi + 25) (by omega)) (cf1 (x := nxj) (a := nxi + 27) (by omega)))))
            have w_cS := And.intro (cf2 (x := nxj) (by omega) w_cc0) (And.intro (cf2 (x := nxj) (by omega) w_cc1) (And.intro (cf2 (x := nxj) (by omega) w_cc2) (And.intro (cf2 (x := nxj) (by omega) w_cc3) (cf2 (x := nxj) (by omega) w_cc4))))
            have w_cZ := And.intro (zf (x := nxj) (b := nxi) (n := 30) (by omega) (by omega)) (zf0 (x := nxj) (n := 16) (by omega))
            have w_c_1V := And.intro (c_1.away (j := 0) (by omega)) (And.intro (c_1.away (j := 11) (by omega)) (And.intro (c_1.away (j := 13) (by omega)) (And.intro (c_1.away (j := nxi + 25) (by omega)) (c_1.away (j := nxi + 27) (by omega)))))
            have w_c_1c := c_1.cell.1
            have w_c_1d := c_1.cell.2
            have w_c_1e := c_1.beq
            have w_c_2V := And.intro (c_2.away (j := 0) (by omega)) (And.intro (c_2.away (j := 11) (by omega)) (And.intro (c_2.away (j := 13) (by omega)) (And.intro (c_2.away (j := nxi + 25) (by omega)) (c_2.away (j := nxi + 27) (by omega)))))
            have w_c_2c := c_2.cell.1
            have w_c_2d := c_2.cell.2
            have w_c_2e := c_2.beq
            have w_c_3V := And.intro (c_3.away (j := 0) (by omega)) (And.intro (c_3.away (j := 11) (by omega)) (And.intro (c_3.away (j := 13) (by omega)) (And.intro (c_3.away (j := nxi + 25) (by omega)) (c_3.away (j := nxi + 27) (by omega)))))
            have w_c_3c := c_3.cell.1
            have w_c_3d := c_3.cell.2
            have w_c_3e := c_3.beq
            have w_c_4V := And.intro (c_4.away (j := 0) (by omega)) (And.intro (c_4.away (j := 11) (by omega)) (And.intro (c_4.away (j := 13) (by omega)) (And.intro (c_4.away (j := nxi + 25) (by omega)) (c_4.away (j := nxi + 27) (by omega)))))
            have w_c_4c := c_4.cell.1
            have w_c_4d := c_4.cell.2
            have w_c_4e := c_4.beq
            by_cases hj : j < n
            · have hab := fun (st : St) => abcd_at (i := j) (k := .i64) (k' := .i64) (by omega) (st := st)
              have hef := fun (st : St) => efgh_at (i := j) (k := .i64) (k' := .i64) (by omega) (st := st)
              simp only [hj, iaddr_int hi2, hn, hab, hef, wrap_succ hj (by omega), w_len, w_9, w_1, w_7, w_8, w_cc3, w_cc4, w_cN, w_c_1e, w_c_2e, w_c_3e, ↓LA, LB, simprocAttr]
              refine pv_appP c_1 ?_ (elts_map fun a => elt_str) sget_cons_eq ?_ ?_ ?_ ?_ ?_ fun chcv hcv => ?_
              · intro j hj; obtain ⟨h1, h2, h3⟩ := hj; simp (disch := omega) only [sget_cons_ne]
              · rfl
              · omega
              · simp [letters_len]; omega
              · simp [letters_len]; omega
              · exact rfl
              simp only [List.length_map, letters_len, w_len, w_8, w_cc3, w_cc4, w_cN, w_c_1V, w_c_2e, w_c_3e, ↓LA, LB, simprocAttr]
              refine pv_appP c_2 ?_ (elts_map fun a => elt_str) sget_cons_eq ?_ ?_ ?_ ?_ ?_ fun chcw hcw => ?_
              · intro j hj; obtain ⟨h1, h2, h3⟩ := hj; simp (disch := omega) only [sget_cons_ne, sget_sset_nn, sget_grow_nn ((c_5 j).resolve_right h3)]
              · rfl
              · omega
              · simp [letters_len]; omega
              · simp [letters_len]; omega
              · exact rfl
              simp only [List.length_map, letters_len, w_len, w_8, w_cc3, w_cc4, w_cN, w_c_1V, w_c_2V, w_c_3e, ↓LA, LB, simprocAttr]
              refine pv_appP c_3 ?_ (elts_map fun a => elt_pat) sget_cons_eq ?_ ?_ ?_ ?_ ?_ fun chcb hcb => ?_
              · intro j hj; obtain ⟨h1, h2, h3⟩ := hj; simp (disch := omega) only [sget_cons_ne, sget_sset_nn, sget_grow_nn h3.1, sget_grow_nn h3.2]
              · rfl
              · omega
              · simp; omega
              · simp; omega
              · exact rfl
              simp only [wrap_succ hj (by omega), List.length_map, List.length_range, w_len, w_9, w_8, w_cc4, w_cN, w_c_1V, w_c_2V, w_c_3V, ↓LA, LB, simprocAttr]
              exact nx_intro (by refine ⟨_, by omega, j + 1, _, _, _, .arr (nxj + 25) 1 false 0 (j + 1), .arr (nxj + 38) 1 false 0 (j + 1), .arr (nxj + 49) 2 true 0 (j + 1), rfl, by omega, gp_more0 [D.str [97 + j]] (ys := [.d (.str [97 + j])]) hcv (by exact ⟨by omega, by omega, fun h => h rfl⟩) (by simp (disch := omega) only [sget_cons_ne, sget_cons_eq, sget_sset_nn, sget_grow_nn (c_2.away (j := nxj + 25) (by omega)), sget_grow_nn (c_3.away (j := nxj + 25) (by omega))]) (by simp [letters_len]) (by rw [letters_succ, List.map_append]; rfl) (by exact ⟨CQ.str, trivial⟩), gp_more0 [D.str [101 + j]] (ys := [.d (.str [101 + j])]) hcw (by exact ⟨by omega, by omega, fun h => h rfl⟩) (by simp (disch := omega) only [sget_cons_ne, sget_cons_eq, sget_sset_nn, sget_grow_nn (c_3.away (j := nxj + 38) (by omega))]) (by simp [letters_len]) (by rw [letters_succ, List.map_append]; rfl) (by exact ⟨CQ.str, trivial⟩), gp_more [PatT.d (eqAtom j)] (ys := [.d (.str [115, 97, 109, 101]), .arr (nxj + 46) 1 false 0 2]) hcb (by intro q hq h4; obtain ⟨h1, h2, h3⟩ := hq; simp (disch := omega) only [sget_cons_ne, sget_sset_nn, sget_grow_nn h4, sget_grow_nn h3.1, sget_grow_nn h3.2]) (by intro q hq; exact ⟨hq.1, by have := hq.2.1; omega, by have := hq.2.1; show nxj + 25 ≠ q; omega, by have := hq.2.1; show nxj + 38 ≠ q; omega⟩) (by exact ⟨by omega, by omega, by show nxj + 25 ≠ nxj + 49; omega, by show nxj + 38 ≠ nxj + 49; omega⟩) (by intro hq; have := hq.2.1; omega) sget_cons_eq (by simp) (by rw [List.range_succ, List.map_append, List.map_append]; rfl) (by exact ⟨CQ.str, cq_arr [D.str [97 + j], D.str [101 + j]] (cs := [.d (.str [97 + j]), .d (.str [101 + j])]) (by exact ⟨⟨by omega, by omega, by show nxj + 25 ≠ nxj + 46; omega, by show nxj + 38 ≠ nxj + 46; omega⟩, by omega⟩) (by simp (disch := omega) only [sget_cons_ne, sget_cons_eq, sget_sset_nn, sget_grow_nn (c_3.away (j := nxj + 46) (by omega))]) (by omega) (by intro x hx; simp at hx; rcases hx with rfl | rfl <;> exact elt_str) rfl (by exact ⟨CQ.str, CQ.str, trivial⟩), trivial⟩), c_4.frame (by intro q hq; obtain ⟨h1, h2, h3⟩ := hq; simp (disch := omega) only [sget_cons_ne, sget_sset_nn, sget_grow_nn (c_1.away (j := q) (by omega)), sget_grow_nn (c_2.away (j := q) (by omega)), sget_grow_nn (c_3.away (j := q) (by omega))]), (fun q => by show nxj + 25 ≠ q ∨ nxj + 38 ≠ q; omega), ?_, ?_, ?_, ?_, ?_, (by omega), Nat.zero_le _, ?_, ?_, ?_, ?_, ?_, ?_, ?_, ?_, rfl⟩ <;> simp (maxDischargeDepth := 60) only [w_len, w_0, w_1, w_4, w_6, w_7, w_8, w_cc0, w_cc1, w_cc2, w_cc3, w_cc4, w_cN, w_aN, w_c_1V, w_c_2V, w_c_3V, LB, simprocAttr])
            · have hjn : j = n := by omega
              rw [hjn] at c_1 c_2 c_3
              simp only [hj, iaddr_int hi2, hn, w_len, w_9, w_1, w_6, w_7, w_8, w_cc2, w_cc4, w_c_3c, ↓LA, LB, simprocAttr]
              refine pv_appP c_4 ?_ (elts_map fun a => elt_clause) sget_cons_eq ?_ ?_ ?_ ?_ ?_ fun chcc hcc => ?_
              · intro j hj; obtain ⟨h1, h2, h3⟩ := hj; simp (disch := omega) only [sget_cons_ne]
              · rfl
              · omega
              · simp [eqClauses_len]; omega
              · simp [eqClauses_len]; omega
              · simp only [List.all_cons, List.all_nil, ic_str, ic_arr, w_c_3c, Bool.and_self]
              simp only [wrap_succ hi (by omega), List.length_map, eqClauses_len, w_len, w_6, w_7, w_cc2, w_cN, w_c_4V, ↓LA, LB, simprocAttr]
              have hall : ∀ j', j' < i + 1 → eqErr names kids j' = 0 := fun j' hj' => by
                rcases Nat.lt_or_ge j' i with h | h
                · exact a_2 j' h
                · rw [show j' = i by omega]; exact hE
              have hmon : ∀ q, (nxi + 30 ≤ q ∧ q < nxj) → (16 ≤ q ∧ q < nxj + 16 ∧ True) ∧ q ≠ nxj + 10 := fun q hq => ⟨⟨by omega, by omega, trivial⟩, by omega⟩
              exact nx_intro (by refine ⟨_, by omega, i + 1, _, _, _, .arr (nxj + 10) 3 true 0 (i + 1), rfl, by omega, gp_more [ClauseT.d (eqClause names[i] n)] (ys := [.d (.str [115, 97, 109, 101]), .arr (nxi + 25) 2 true 0 2, xb]) hcc (by intro q hq h4; obtain ⟨h1, h2, h3⟩ := hq; simp (disch := omega) only [sget_cons_ne, sget_sset_nn, sget_grow_nn h4]) (by intro q hq; exact ⟨hq.1, by have := hq.2.1; omega, trivial⟩) (by exact ⟨by omega, by omega, trivial⟩) (by intro hq; have := hq.2.1; omega) sget_cons_eq (by simp [eqClauses_len]) (by rw [eqClauses_succ hi hi2, List.map_append, hn]; rfl) (by exact ⟨CQ.str, cq_arr [PatT.d ⟨names[i], letters 0 n⟩, PatT.d ⟨names[i], letters 4 n⟩] (cs := [.d (.str names[i]), xv, .d (.str names[i]), xw]) (by exact ⟨⟨by omega, by omega, trivial⟩, by omega⟩) (by simp (disch := omega) only [sget_cons_ne, sget_sset_nn, sget_grow_nn (c_4.away (j := nxi + 25) (by omega)), w_cc3]) (by omega) (by intro x hx; simp at hx; rcases hx with rfl | rfl <;> exact elt_pat) rfl (by exact ⟨CQ.str, CQ.mono (fun q hq => hmon q ⟨hq.1, hq.2.1⟩) ((c_1.frame (by intro q hq; obtain ⟨h1, h2, h3⟩ := hq; simp (disch := omega) only [sget_cons_ne, sget_sset_nn, sget_grow_nn (c_4.away (j := q) (by omega))])).cv (by omega) (elts_map fun a => elt_str)), CQ.str, CQ.mono (fun q hq => hmon q ⟨hq.1, hq.2.1⟩) ((c_2.frame (by intro q hq; obtain ⟨h1, h2, h3⟩ := hq; simp (disch := omega) only [sget_cons_ne, sget_sset_nn, sget_grow_nn (c_4.away (j := q) (by omega))])).cv (by omega) (elts_map fun a => elt_str)), trivial⟩), CQ.mono (fun q hq => hmon q ⟨hq.1, hq.2.1⟩) ((c_3.frame (by intro q hq; obtain ⟨h1, h2, h3⟩ := hq; simp (disch := omega) only [sget_cons_ne, sget_sset_nn, sget_grow_nn (c_4.away (j := q) (by omega))])).cv (by omega) (elts_map fun a => elt_pat)), trivial⟩), hall, ?_, ?_, ?_, (by omega), Nat.zero_le _, ?_, ?_, ?_, ?_, ?_, ?_, rfl⟩ <;> simp only [w_len, w_0, w_1, w_4, w_6, w_cc0, w_cc1, w_cc2, w_cN, w_c_4V, LB, simprocAttr])
      · have hin : i = names.length := by omega
        rw [hin] at a_1 a_2
        rw [firstN_none a_2, if_neg (by simp)] at hS
        simp only [hi, w_len, w_7, w_0, w_4, w_6, w_ac0, w_ac2, w_aS, w_a_1c, ↓LA, LB, simprocAttr]
        exact rql2 (x := RulesT.d ⟨[eqRel], eqClauses names kids names.length⟩) (snap_mkP (lv := false) (S := fun q => 1 ≤ q) (n := 3) (m := 11) (fun j h => Nat.zero_le j) (by decide) ⟨CQ.dep (n := 1) (by omega) (cq_arr [eqRel.d] (cs := [.d (.str [115, 97, 109, 101]), .d (.int .i64 2), .d (.int .i64 1)]) (by omega) (by simp (disch := omega) only [sget_sset_nn]; exact w_ac1) (by omega) (by intro x hx; simp at hx; subst hx; exact elt_rel) rfl ⟨CQ.str, CQ.int, CQ.int, trivial⟩), ((a_1.frame (by intro q hq; obtain ⟨h1, h2, h3⟩ := hq; simp (disch := omega) only [sget_sset_nn])).cv (by omega) (elts_map fun a => elt_clause)).mono fun q hq => by omega, trivial⟩) rfl (by rw [hS])
  · have hS : specEq names kids = (⟨[], []⟩, 7) := by rw [specEq, if_pos h1]
    simp only [T1.i14, h1, w_len, w_0, w_1, ↓LA, LB, simprocAttr]
    exact rql2 (snap_mk (lv := false) (lo := 0) (n := 1) (hi := 0) (m := 11) (ds := [.sl [], .sl []]) (by omega) (by decide) ⟨CV.nil, CV.nil, trivial⟩) rfl (by rw [hS]; rfl)
end Go.Lift.K
