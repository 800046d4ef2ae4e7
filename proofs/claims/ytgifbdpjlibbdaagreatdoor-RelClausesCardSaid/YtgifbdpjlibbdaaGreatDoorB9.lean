/- Part B9 of the proof. -/
import Derived.Test.YtgifbdpjlibbdaaGreatDoorB8
import Derived.Test.YtgifbdpjlibbdaaGreatDoorA7
import Derived.Test.YtgifbdpjlibbdaaGreatDoorB6
import Derived.Test.YtgifbdpjlibbdaaGreatDoorB4
import Derived.Test.YtgifbdpjlibbdaaGreatDoorB7
set_option linter.all false
namespace Go.Lift.K
open Go Go.Lift
set_option maxRecDepth 100000
theorem zym {l : List Nat} {n i : Nat} (hi : i < l.length) (h : l[i] = n) (hn : n ∉ l.take i) : l.findIdx (· == n) = i := by
 rw [List.findIdx_eq hi]
 refine ⟨by simpa using h, fun j hj => ?_⟩
 have hj2 : j < (l.take i).length := by rw [List.length_take]; omega
 have e : (l.take i)[j] = l[j] := List.getElem_take
 have : l[j] ≠ n := fun h' => hn (by rw [← h', ← e]; exact List.getElem_mem hj2)
 simpa using this
theorem ztg {l : List Nat} {n : Nat} (hl : l.length ≤ 1000000) (hn : n ∈ l) (st : St) : z05 G (.fn 118 [] []) [.d (.sl (dis l)), .d (.int .i64 n)] st = some (.d (.int .i64 (l.findIdx (· == n) : Nat)), st) := by
 refine z0f (ds := [.sl (dis l), .int .i64 n]) (rs := [.int .i64 (l.findIdx (· == n) : Nat)]) T1.g118 rfl rfl (fun e w_len harg => ?_) st
 have w_len : e.length = 19 := w_len
 have w_0 := harg 0 (by simp)
 have w_1 := harg 1 (by simp)
 clear harg
 simp only [List.map_cons, List.map_nil, List.getD_cons_zero, List.getD_cons_succ] at w_0 w_1
 simp only [T1.i118, ↓LA, LB, simprocAttr]
 refine z09 (fun e0 s0 m env st => ∃ (i nxi : Nat), m = l.length - i ∧ (i ≤ l.length) ∧ (n ∉ l.take i) ∧ env.length = 19 ∧ env.getD 5 .undef = .d (.int .i64 i) ∧ env.getD 0 .undef = .d (.sl (dis l)) ∧ env.getD 1 .undef = .d (.int .i64 n) ∧ st = { s := s0.s, next := nxi, low := s0.low }) ?_ (l.length) (by refine ⟨0, _, rfl, by omega, by simp, ?_, ?_, ?_, ?_, rfl⟩ <;> simp only [w_len, w_0, w_1, LB, simprocAttr])
 rintro m env st ⟨i, nxi, hm, a_0, a_1, w_len, w_5, w_0, w_1, rfl⟩
 by_cases hi : i < l.length
 ·by_cases h : l[i] = n
  ·simp only [hi, dis_len, z12 hi, ceq h, w_len, w_5, w_0, w_1, ↓LA, LB, simprocAttr]
   rw [zym hi h a_1]
   exact rq1 (by rfl)
  ·simp only [hi, dis_len, z12 hi, cne h, z02 hi (by omega), w_len, w_5, w_0, w_1, ↓LA, LB, simprocAttr]
   exact z08 (by refine ⟨_, by omega, i + 1, _, rfl, by omega, by rw [z16 hi, List.mem_append, List.mem_singleton]; exact fun h' => h'.elim a_1 (fun e => h e.symm), ?_, ?_, ?_, ?_, rfl⟩ <;> simp only [w_len, w_0, w_1, LB, simprocAttr])
 ·rw [List.take_of_length_le (by omega)] at a_1
  exact absurd hn a_1
theorem zqs {t : TreeT} (hg : Gd t.nodes) {r : Nat} (hr : r < t.nodes.length) (st : St) :
  z05 G (.fn 93 [] []) [.d t.d, .d (.int .i64 r)] st = some (.d (TreeT.d ⟨zgj t.nodes r, 0⟩), st) := by
 have hn := hg.rt
 have hl := hg.len
 obtain ⟨hnd, hlt, hcl, hhd⟩ := z1h hn hr
 have hrl := z5x hn hr
 have hR := fun st => z8e hg hr st
 simp only [TreeT.d] at hR
 rw [show zgj t.nodes r = (z21 t.nodes r).map (z79 t.nodes (z21 t.nodes r)) from rfl]
 obtain ⟨L, hL⟩ : ∃ L, L = z21 t.nodes r := ⟨_, rfl⟩
 rw [← hL] at hnd hlt hcl hhd hrl hR ⊢
 have hP := fun (n : Nat) (hn : n ∈ L) st => ztg (l := L) (n := n) (by omega) hn st
 refine z0f (ds := [t.d, .int .i64 (r : Nat)]) (rs := [TreeT.d ⟨L.map (z79 t.nodes L), 0⟩]) T1.g93 rfl rfl (fun e w_len harg => ?_) st
 have w_len : e.length = 69 := w_len
 have w_0 := harg 0 (by simp)
 have w_1 := harg 1 (by simp)
 clear harg
 simp only [List.map_cons, List.map_nil, List.getD_cons_zero, List.getD_cons_succ] at w_0 w_1
 simp only [T1.i93, TreeT.d, hR, w_len, w_0, w_1, ↓LA, LB, simprocAttr]
 refine z09 (fun e0 s0 m env st => ∃ (i nxi lwi : Nat) (si : List (Nat × Obj)) (xv : V), m = L.length - i ∧ (i ≤ L.length) ∧ (Gr si false 7 1 nxi 2 true xv ((L.take i).map fun x => (z79 t.nodes L x).d)) ∧ sget si (0) = some (.cells [.d (.sl (t.nodes.map NodeT.d)), .d (.int .i64 t.root)]) ∧ sget si (1) = some (.cells [.nilS, .d (.int .i64 0)]) ∧ sget si (6) = some (.cells [xv, .d (.int .i64 0)]) ∧ 7 ≤ nxi ∧ 0 ≤ lwi ∧ env.length = 69 ∧ env.getD 7 .undef = .d (.int .i64 i) ∧ env.getD 2 .undef = .ptr 0 0 ∧ env.getD 4 .undef = .ptr 1 0 ∧ env.getD 5 .undef = .d (.sl (dis L)) ∧ env.getD 6 .undef = .ptr 6 0 ∧ st = { s := si, next := nxi, low := lwi }) ?_ (L.length) (by refine ⟨0, _, _, _, .nilS, rfl, by omega, Gr.nil, ?_, ?_, ?_, (by omega), Nat.zero_le _, ?_, ?_, ?_, ?_, ?_, ?_, rfl⟩ <;> simp only [w_len, LB, simprocAttr])
 rintro m env st ⟨i, nxi, lwi, si, xv, hm, a_0, a_1, w_ac0, w_ac1, w_ac2, w_ab, w_alo, w_len, w_7, w_2, w_4, w_5, w_6, rfl⟩
 have w_aN := And.intro (cf1 (x := nxi) (a := 0) (by omega)) (And.intro (cf1 (x := nxi) (a := 1) (by omega)) (cf1 (x := nxi) (a := 6) (by omega)))
 have w_aS := And.intro (cf2 (x := nxi) (by omega) w_ac0) (And.intro (cf2 (x := nxi) (by omega) w_ac1) (cf2 (x := nxi) (by omega) w_ac2))
 have w_aZ := zf0 (x := nxi) (n := 7) (by omega)
 have w_a_1V := And.intro (a_1.away (j := 0) (by omega)) (And.intro (a_1.away (j := 1) (by omega)) (a_1.away (j := 6) (by omega)))
 have w_a_1c := a_1.cell.1
 have w_a_1d := a_1.cell.2
 have w_a_1e := a_1.beq
 have hlen := GP.len a_1
 rw [List.length_map] at hlen
 by_cases hi : i < L.length
 ·have hxL := List.getElem_mem hi
  have hx := hlt L[i] hxL
  simp only [hi, dis_len, z12 hi, z0j hx, w_len, w_7, w_2, w_5, w_ac0, ↓LA, LB, simprocAttr]
  obtain ⟨K, hK⟩ : ∃ K, K = (z79 t.nodes L L[i]).kids := ⟨_, rfl⟩
  have hnd' := z1w hx
  have hKl : K.length = t.nodes[L[i]].kids.length := by rw [hK]; unfold z79; rw [List.length_map, z2o, hnd']
  have hkl := hg.kids _ hx
  rw [hnd'] at hkl
  refine z09 (fun e0 s0 m env st => ∃ (k nxk lwk : Nat) (sk : List (Nat × Obj)) (xw : V), m = t.nodes[L[i]].kids.length - k ∧ (k ≤ t.nodes[L[i]].kids.length) ∧ (Gr sk false (nxi + 17) 0 nxk 1 false xw ((K.take k).map (D.int .i64))) ∧ (Gr sk false 7 1 nxi 2 true xv ((L.take i).map fun x => (z79 t.nodes L x).d)) ∧ sget sk (0) = some (.cells [.d (.sl (t.nodes.map NodeT.d)), .d (.int .i64 t.root)]) ∧ sget sk (1) = some (.cells [.nilS, .d (.int .i64 0)]) ∧ sget sk (6) = some (.cells [xv, .d (.int .i64 0)]) ∧ sget sk (nxi + 14) = some (.cells [.d (.str t.nodes[L[i]].name), xw]) ∧ nxi + 17 ≤ nxk ∧ 0 ≤ lwk ∧ env.length = 69 ∧ env.getD 9 .undef = .d (.int .i64 k) ∧ env.getD 2 .undef = .ptr 0 0 ∧ env.getD 4 .undef = .ptr 1 0 ∧ env.getD 5 .undef = .d (.sl (dis L)) ∧ env.getD 6 .undef = .ptr 6 0 ∧ env.getD 7 .undef = .d (.int .i64 i) ∧ env.getD 8 .undef = .ptr (nxi + 14) 0 ∧ st = { s := sk, next := nxk, low := lwk }) ?_ (t.nodes[L[i]].kids.length) (by refine ⟨0, _, _, _, .nilS, rfl, by omega, Gr.nil, a_1.frame (by intro j h1 h2; simp (disch := omega) only [z00]), ?_, ?_, ?_, ?_, (by omega), Nat.zero_le _, ?_, ?_, ?_, ?_, ?_, ?_, ?_, ?_, rfl⟩ <;> simp only [w_len, w_7, w_2, w_4, w_5, w_6, w_ac0, w_ac1, w_ac2, w_aN, LB, simprocAttr])
  rintro m env st ⟨k, nxk, lwk, sk, xw, hm, b_0, b_1, b_2, w_bc0, w_bc1, w_bc2, w_bc3, w_bb, w_blo, w_len, w_9, w_2, w_4, w_5, w_6, w_7, w_8, rfl⟩
  have w_bN := And.intro (cf1 (x := nxk) (a := 0) (by omega)) (And.intro (cf1 (x := nxk) (a := 1) (by omega)) (And.intro (cf1 (x := nxk) (a := 6) (by omega)) (cf1 (x := nxk) (a := nxi + 14) (by omega))))
  have w_bS := And.intro (cf2 (x := nxk) (by omega) w_bc0) (And.intro (cf2 (x := nxk) (by omega) w_bc1) (And.intro (cf2 (x := nxk) (by omega) w_bc2) (cf2 (x := nxk) (by omega) w_bc3)))
  have w_bZ := And.intro (zf (x := nxk) (b := nxi) (n := 17) (by omega) (by omega)) (zf0 (x := nxk) (n := 7) (by omega))
  have w_b_1V := And.intro (b_1.away (j := 0) (by omega)) (And.intro (b_1.away (j := 1) (by omega)) (And.intro (b_1.away (j := 6) (by omega)) (b_1.away (j := nxi + 14) (by omega))))
  have w_b_1c := b_1.cell.1
  have w_b_1d := b_1.cell.2
  have w_b_1e := b_1.beq
  have w_b_2V := And.intro (b_2.away (j := 0) (by omega)) (And.intro (b_2.away (j := 1) (by omega)) (And.intro (b_2.away (j := 6) (by omega)) (b_2.away (j := nxi + 14) (by omega))))
  have w_b_2c := b_2.cell.1
  have w_b_2d := b_2.cell.2
  have w_b_2e := b_2.beq
  by_cases hk : k < t.nodes[L[i]].kids.length
  ·obtain ⟨hke, hkn⟩ := hg.at_ hx hk
   have hkL : kid t.nodes L[i] k ∈ L := hcl _ hxL _ (z3c (by rw [hnd']; exact hk))
   have hkK : k < K.length := by omega
   have hKk : K[k] = ((L.findIdx (· == kid t.nodes L[i] k) : Nat) : Int) := by
    have hk2 : k < (kds t.nodes L[i]).length := by rw [z2o, hnd']; exact hk
    simp only [hK, z79, List.getElem_map]
    simp [kid, List.getD_eq_getElem?_getD, hk2]
   simp only [hk, z12 hi, z0j hx, z1a hk, hke, hP _ hkL, List.length_map, w_len, w_9, w_2, w_5, w_7, w_8, w_bc0, w_bc3, w_bN, w_b_1e, ↓LA, LB, simprocAttr]
   refine z3z b_1 ?_ (z0h fun a => z5o) z01 ?_ ?_ ?_ ?_ ?_ fun chc0 hc0 => ?_
   ·intro j h1 h2; simp (disch := omega) only [z00]
   ·rfl
   ·omega
   ·simp; omega
   ·simp; omega
   ·exact rfl
   simp only [z02 hk (by omega), w_len, w_9, w_8, w_bc3, w_bN, w_b_1V, ↓LA, LB, simprocAttr]
   have hn2 : (K.take (k + 1)).map (D.int .i64) = (K.take k).map (D.int .i64) ++ [.int .i64 K[k]] := by rw [z16 hkK, List.map_append]; rfl
   rw [hKk] at hn2
   exact z08 (by refine ⟨_, by omega, k + 1, _, _, _, .arr (nxk + 29) 1 false 0 (((K.take k).map (D.int .i64)).length + 1), rfl, by omega, (by rw [hn2]; exact z34 hc0 (by intro j h1 h2 h3; simp (disch := omega) only [z00, z04, z0d h3]) (by omega) (by omega) (by omega) z01 rfl ⟨CV.int, trivial⟩), b_2.frame (by intro j h1 h2; simp (disch := omega) only [z00, z04, z0d (b_1.away (j := j) (by omega))]), ?_, ?_, ?_, ?_, (by omega), Nat.zero_le _, ?_, ?_, ?_, ?_, ?_, ?_, ?_, ?_, rfl⟩ <;> simp only [w_len, w_2, w_4, w_5, w_6, w_7, w_8, w_bc0, w_bc1, w_bc2, w_bc3, w_bN, w_aN, w_b_1V, LB, simprocAttr])
  ·have hKt : K.take k = K := List.take_of_length_le (by omega)
   have hgb := b_1
   rw [hKt] at hgb
   simp only [hk, z12 hi, z0j hx, List.length_map, w_len, w_9, w_2, w_5, w_6, w_7, w_8, w_bc0, w_bc2, w_bc3, w_b_1c, ↓LA, LB, simprocAttr]
   refine z3z b_2 ?_ ((fun x hx => by obtain ⟨y, _, rfl⟩ := List.mem_map.1 hx; exact z3p)) z01 ?_ ?_ ?_ ?_ ?_ fun chc0 hc0 => ?_
   ·intro j h1 h2; simp (disch := omega) only [z00]
   ·rfl
   ·omega
   ·simp; omega
   ·simp; omega
   ·simp only [List.all_cons, List.all_nil, zge, w_b_1c, Bool.and_self]
   simp only [z02 hi (by omega), w_len, w_6, w_7, w_bc2, w_bN, w_b_2V, ↓LA, LB, simprocAttr]
   have hn2 : ((L.take (i + 1)).map fun x => (z79 t.nodes L x).d) = ((L.take i).map fun x => (z79 t.nodes L x).d) ++ [.agg [.str t.nodes[L[i]].name, .sl (K.map (D.int .i64))]] := by
    rw [z16 hi, List.map_append, hK, ← hnd']; rfl
   exact z08 (by refine ⟨_, by omega, i + 1, _, _, _, .arr (nxk + 16) 2 true 0 (((L.take i).map fun x => (z79 t.nodes L x).d).length + 1), rfl, by omega, (by rw [hn2]; exact z34 hc0 (by intro j h1 h2 h3; simp (disch := omega) only [z00, z04, z0d h3]) (by omega) (by omega) (by omega) z01 rfl ⟨CV.str, CV.lo (by omega) (CV.hi ((hgb.frame (by intro j h1 h2; simp (disch := omega) only [z00, z04, z0d (b_2.away (j := j) (by omega))])).cv (by omega) (z0h fun a => z5o)) (by omega)), trivial⟩), ?_, ?_, ?_, (by omega), Nat.zero_le _, ?_, ?_, ?_, ?_, ?_, ?_, rfl⟩ <;> simp only [w_len, w_2, w_4, w_5, w_6, w_bc0, w_bc1, w_bc2, w_bN, w_b_2V, LB, simprocAttr])
 ·have hie : i = L.length := by omega
  subst hie
  have hga := a_1
  rw [List.take_length] at hga
  simp only [hi, dis_len, w_len, w_7, w_4, w_5, w_6, w_ac1, w_ac2, w_aS, w_a_1c, ↓LA, LB, simprocAttr]
  have hmm : (L.map fun x => (z79 t.nodes L x).d) = (L.map (z79 t.nodes L)).map NodeT.d := by rw [List.map_map]; rfl
  rw [hmm] at hga
  exact rql1 (x := TreeT.d ⟨L.map (z79 t.nodes L), 0⟩) (z5w (lv := false) (lo := 7) (n := 2) (hi := nxi) (m := 11) (by omega) (by decide) ⟨(hga.frame (by intro j h1 h2; simp (disch := omega) only [z04])).cv (by omega) (z0h fun a => z3p), CV.int, trivial⟩) rfl
end Go.Lift.K
namespace Go.Lift.K
open Go Go.Lift Classical
set_option maxRecDepth 100000
def Sn (x y : NodeT) : Prop := difS x y = false ∧ ∀ j (h3 : j < x.kids.length) (h4 : j < y.kids.length), x.kids[j] = y.kids[j]
theorem y24 {x y : NodeT} (h : Sn x y) : x = y := by
 obtain ⟨h3, h4⟩ := h
 obtain ⟨k1, k2⟩ := z62.1 h3
 have := List.ext_getElem k2 h4
 cases x; cases y
 simp at k1 this
 rw [k1, this]
theorem z8w {a b : TreeT} (ha : a.ok) (hb : b.ok) (hal : a.nodes.length ≤ 1000000) (hak : ∀ x ∈ a.nodes, x.kids.length ≤ 1000000) (st : St) :
  z05 G (.fn 94 [] []) [.d a.d, .d b.d] st = some (.d (.bool (decide (a = b))), st) := by
 refine z0f (ds := [a.d, b.d]) (rs := [.bool (decide (a = b))]) T1.g94 rfl rfl (fun e w_len harg => ?_) st
 have w_len : e.length = 69 := w_len
 have w_0 := harg 0 (by simp)
 have w_1 := harg 1 (by simp)
 clear harg
 simp only [List.map_cons, List.map_nil, List.getD_cons_zero, List.getD_cons_succ] at w_0 w_1
 have hab : a = b ↔ a.nodes = b.nodes ∧ a.root = b.root := by
  cases a; cases b; simp
 by_cases hr : a.root = b.root
 ·by_cases hl : a.nodes.length = b.nodes.length
  ·simp only [T1.i94, TreeT.d, hr, ceq hl, List.length_map, w_len, w_0, w_1, ↓LA, LB, simprocAttr]
   refine z09 (fun e0 s0 m env st => ∃ (i nxi lwi : Nat) (si : List (Nat × Obj)), m = a.nodes.length - i ∧ (i ≤ a.nodes.length) ∧ (∀ q (h1 : q < a.nodes.length) (h2 : q < b.nodes.length), q < i → Sn a.nodes[q] b.nodes[q]) ∧ sget si (0) = some (.cells [.d (.sl (a.nodes.map NodeT.d)), .d (.int .i64 b.root)]) ∧ sget si (1) = some (.cells [.d (.sl (b.nodes.map NodeT.d)), .d (.int .i64 b.root)]) ∧ 2 ≤ nxi ∧ 0 ≤ lwi ∧ env.length = 69 ∧ env.getD 5 .undef = .d (.int .i64 i) ∧ env.getD 2 .undef = .ptr 0 0 ∧ env.getD 3 .undef = .ptr 1 0 ∧ st = { s := si, next := nxi, low := lwi }) ?_ (a.nodes.length) (by refine ⟨0, _, _, _, rfl, by omega, fun q h1 h2 h3 => by omega, ?_, ?_, (by omega), Nat.zero_le _, ?_, ?_, ?_, ?_, rfl⟩ <;> simp only [w_len, LB, simprocAttr])
   rintro m env st ⟨i, nxi, lwi, si, hm, o_0, o_1, w_oc0, w_oc1, w_ob, w_olo, w_len, w_5, w_2, w_3, rfl⟩
   have w_oN := And.intro (cf1 (x := nxi) (a := 0) (by omega)) (cf1 (x := nxi) (a := 1) (by omega))
   have w_oS := And.intro (cf2 (x := nxi) (by omega) w_oc0) (cf2 (x := nxi) (by omega) w_oc1)
   have w_oZ := zf0 (x := nxi) (n := 2) (by omega)
   by_cases hi : i < a.nodes.length
   ·have hj : i < b.nodes.length := by omega
    have hn1 : a.nodes[i].ok := ha.1.2 _ (List.getElem_mem hi)
    have hn2 : b.nodes[i].ok := hb.1.2 _ (List.getElem_mem hj)
    have hD := fun st => zgx hn1 hn2 st
    have hkl := hak _ (List.getElem_mem hi)
    simp only [NodeT.d] at hD
    cases hd : difS a.nodes[i] b.nodes[i] with
    | true =>
     simp only [hi, z0j hi, z0j hj, hD, hd, List.length_map, w_len, w_5, w_2, w_3, w_oc0, w_oc1, ↓LA, LB, simprocAttr]
     exact rq1 (by rw [eq_comm, decide_eq_false]; intro h; have := (hab.1 h).1; simp only [this] at hd; simp [difS] at hd)
    | false =>
     simp only [hi, z0j hi, z0j hj, hD, hd, List.length_map, w_len, w_5, w_2, w_3, w_oc0, w_oc1, ↓LA, LB, simprocAttr]
     obtain ⟨hdn, hdk⟩ := z62.1 hd
     refine z09 (fun e0 s0 m env st => ∃ (k nxk lwk : Nat) (sk : List (Nat × Obj)), m = a.nodes[i].kids.length - k ∧ (k ≤ a.nodes[i].kids.length) ∧ (∀ j (h3 : j < a.nodes[i].kids.length) (h4 : j < b.nodes[i].kids.length), j < k → a.nodes[i].kids[j] = b.nodes[i].kids[j]) ∧ sget sk (0) = some (.cells [.d (.sl (a.nodes.map NodeT.d)), .d (.int .i64 b.root)]) ∧ sget sk (1) = some (.cells [.d (.sl (b.nodes.map NodeT.d)), .d (.int .i64 b.root)]) ∧ 2 ≤ nxk ∧ 0 ≤ lwk ∧ env.length = 69 ∧ env.getD 6 .undef = .d (.int .i64 k) ∧ env.getD 2 .undef = .ptr 0 0 ∧ env.getD 3 .undef = .ptr 1 0 ∧ env.getD 5 .undef = .d (.int .i64 i) ∧ st = { s := sk, next := nxk, low := lwk }) ?_ (a.nodes[i].kids.length) (by refine ⟨0, _, _, _, rfl, by omega, fun j h1 h2 h3 => by omega, ?_, ?_, (by omega), Nat.zero_le _, ?_, ?_, ?_, ?_, ?_, rfl⟩ <;> simp only [w_len, w_5, w_2, w_3, w_oc0, w_oc1, LB, simprocAttr])
     rintro m env st ⟨k, nxk, lwk, sk, hm, p_0, p_1, w_pc0, w_pc1, w_pb, w_plo, w_len, w_6, w_2, w_3, w_5, rfl⟩
     have w_pN := And.intro (cf1 (x := nxk) (a := 0) (by omega)) (cf1 (x := nxk) (a := 1) (by omega))
     have w_pS := And.intro (cf2 (x := nxk) (by omega) w_pc0) (cf2 (x := nxk) (by omega) w_pc1)
     have w_pZ := zf0 (x := nxk) (n := 2) (by omega)
     by_cases hk : k < a.nodes[i].kids.length
     ·have hk2 : k < b.nodes[i].kids.length := by omega
      by_cases he : a.nodes[i].kids[k] = b.nodes[i].kids[k]
      ·simp only [hk, z0j hi, z0j hj, z1a hk, z1a hk2, he, List.length_map, z02 hk (by omega), w_len, w_6, w_2, w_3, w_5, w_pc0, w_pc1, ↓LA, LB, simprocAttr]
       exact z08 (by refine ⟨_, by omega, k + 1, _, _, _, rfl, by omega, fun j h1 h2 h3 => if h : j = k then (by subst h; exact he) else p_1 j h1 h2 (by omega), ?_, ?_, (by omega), Nat.zero_le _, ?_, ?_, ?_, ?_, ?_, rfl⟩ <;> simp only [w_len, w_2, w_3, w_5, w_pc0, w_pc1, LB, simprocAttr])
      ·simp only [hk, z0j hi, z0j hj, z1a hk, z1a hk2, he, List.length_map, w_len, w_6, w_2, w_3, w_5, w_pc0, w_pc1, ↓LA, LB, simprocAttr]
       exact rq1 (by rw [eq_comm, decide_eq_false]; intro h; apply he; have := (hab.1 h).1; simp only [this])
     ·simp only [hk, z0j hi, List.length_map, z02 hi (by omega), w_len, w_6, w_2, w_5, w_pc0, ↓LA, LB, simprocAttr]
      exact z08 (by refine ⟨_, by omega, i + 1, _, _, _, rfl, by omega, fun q h1 h2 h3 => if h : q = i then (by subst h; exact ⟨hd, fun j h3 h4 => p_1 j h3 h4 (by omega)⟩) else o_1 q h1 h2 (by omega), ?_, ?_, (by omega), Nat.zero_le _, ?_, ?_, ?_, ?_, rfl⟩ <;> simp only [w_len, w_2, w_3, w_pc0, w_pc1, LB, simprocAttr])
   ·simp only [hi, List.length_map, w_len, w_5, w_2, w_oc0, ↓LA, LB, simprocAttr]
    exact rq1 (by rw [eq_comm, decide_eq_true]; exact hab.2 ⟨List.ext_getElem hl fun q h1 h2 => y24 (o_1 q h1 h2 (by omega)), hr⟩)
  ·simp only [T1.i94, TreeT.d, hr, cne hl, List.length_map, w_len, w_0, w_1, ↓LA, LB, simprocAttr]
   exact rq1 (by rw [eq_comm, decide_eq_false]; intro h; exact hl (by rw [(hab.1 h).1]))
 ·simp only [T1.i94, TreeT.d, hr, w_len, w_0, w_1, ↓LA, LB, simprocAttr]
  exact rq1 (by rw [eq_comm, decide_eq_false]; intro h; exact hr (hab.1 h).2)
end Go.Lift.K
namespace Go.Lift.K
open Go Go.Lift Classical
set_option maxRecDepth 100000
noncomputable def z18 (g : GoalT) : GoalT := ⟨g.rel, g.args.map z1o⟩
def Og (g : GoalT) : Prop := ∀ t ∈ g.args, Ok t ∧ t.ok
theorem Ok.nat {t : TreeT} (h : Ok t) : t.root = (t.root.toNat : Nat) ∧ t.root.toNat < t.nodes.length := by
 have h1 := h.rl
 have h2 := h.rh
 omega
theorem zml {a b : GoalT} (ha : a.ok) (hb : b.ok) (hal : a.args.length ≤ 1000000) (hak : ∀ t ∈ a.args, t.nodes.length ≤ 1000000 ∧ ∀ x ∈ t.nodes, x.kids.length ≤ 1000000) (st : St) :
  z05 G (.fn 58 [] []) [.d a.d, .d b.d] st = some (.d (.bool (decide (a = b))), st) := by
 refine z0f (ds := [a.d, b.d]) (rs := [.bool (decide (a = b))]) T1.g58 rfl rfl (fun e w_len harg => ?_) st
 have w_len : e.length = 39 := w_len
 have w_0 := harg 0 (by simp)
 have w_1 := harg 1 (by simp)
 clear harg
 simp only [List.map_cons, List.map_nil, List.getD_cons_zero, List.getD_cons_succ] at w_0 w_1
 have hab : a = b ↔ a.rel = b.rel ∧ a.args = b.args := by
  cases a; cases b; simp
 by_cases hr : a.rel = b.rel
 ·by_cases hl : a.args.length = b.args.length
  ·simp only [T1.i58, GoalT.d, hr, ceq hl, List.length_map, w_len, w_0, w_1, ↓LA, LB, simprocAttr]
   refine z09 (fun e0 s0 m env st => ∃ (i nxi lwi : Nat) (si : List (Nat × Obj)), m = a.args.length - i ∧ (i ≤ a.args.length) ∧ (∀ q (h1 : q < a.args.length) (h2 : q < b.args.length), q < i → a.args[q] = b.args[q]) ∧ sget si (0) = some (.cells [.d (.str b.rel), .d (.sl (a.args.map TreeT.d))]) ∧ sget si (1) = some (.cells [.d (.str b.rel), .d (.sl (b.args.map TreeT.d))]) ∧ 2 ≤ nxi ∧ 0 ≤ lwi ∧ env.length = 39 ∧ env.getD 5 .undef = .d (.int .i64 i) ∧ env.getD 2 .undef = .ptr 0 0 ∧ env.getD 3 .undef = .ptr 1 0 ∧ st = { s := si, next := nxi, low := lwi }) ?_ (a.args.length) (by refine ⟨0, _, _, _, rfl, by omega, fun q h1 h2 h3 => by omega, ?_, ?_, (by omega), Nat.zero_le _, ?_, ?_, ?_, ?_, rfl⟩ <;> simp only [w_len, LB, simprocAttr])
   rintro m env st ⟨i, nxi, lwi, si, hm, o_0, o_1, w_oc0, w_oc1, w_ob, w_olo, w_len, w_5, w_2, w_3, rfl⟩
   have w_oN := And.intro (cf1 (x := nxi) (a := 0) (by omega)) (cf1 (x := nxi) (a := 1) (by omega))
   have w_oS := And.intro (cf2 (x := nxi) (by omega) w_oc0) (cf2 (x := nxi) (by omega) w_oc1)
   have w_oZ := zf0 (x := nxi) (n := 2) (by omega)
   by_cases hi : i < a.args.length
   ·have hj : i < b.args.length := by omega
    have hkl := hak _ (List.getElem_mem hi)
    have hE := fun st => z8w (ha.2.2 _ (List.getElem_mem hi)) (hb.2.2 _ (List.getElem_mem hj)) hkl.1 hkl.2 st
    simp only [TreeT.d] at hE
    by_cases he : a.args[i] = b.args[i]
    ·have he' := eq_true he
     simp only [hi, z19 hi, z19 hj, hE, he', List.length_map, z02 hi (by omega), w_len, w_5, w_2, w_3, w_oc0, w_oc1, ↓LA, LB, simprocAttr]
     exact z08 (by refine ⟨_, by omega, i + 1, _, _, _, rfl, by omega, fun q h1 h2 h3 => if h : q = i then (by subst h; exact he) else o_1 q h1 h2 (by omega), ?_, ?_, (by omega), Nat.zero_le _, ?_, ?_, ?_, ?_, rfl⟩ <;> simp only [w_len, w_2, w_3, w_oc0, w_oc1, LB, simprocAttr])
    ·simp only [hi, z19 hi, z19 hj, hE, he, List.length_map, w_len, w_5, w_2, w_3, w_oc0, w_oc1, ↓LA, LB, simprocAttr]
     exact rq1 (by rw [eq_comm, decide_eq_false]; intro h; apply he; have := (hab.1 h).2; simp only [this])
   ·have hq : a = b := hab.2 ⟨hr, List.ext_getElem hl fun q h1 h2 => o_1 q h1 h2 (by omega)⟩
    simp only [hi, List.length_map, w_len, w_5, w_2, w_oc0, ↓LA, LB, simprocAttr]
    exact rq1 (by rw [eq_comm, decide_eq_true]; exact hq)
  ·simp only [T1.i58, GoalT.d, hr, cne hl, List.length_map, w_len, w_0, w_1, ↓LA, LB, simprocAttr]
   exact rq1 (by rw [eq_comm, decide_eq_false]; intro h; exact hl (by rw [(hab.1 h).2]))
 ·simp only [T1.i58, GoalT.d, hr, w_len, w_0, w_1, ↓LA, LB, simprocAttr]
  exact rq1 (by rw [eq_comm, decide_eq_false]; intro h; exact hr (hab.1 h).1)
theorem z6j {g : GoalT} (hl : g.args.length ≤ 1000000) (hk : Og g) (st : St) : z05 G (.fn 11 [] []) [.d g.d] st = some (.d (z18 g).d, st) := by
 have hgd : (z18 g).d = .agg [.str g.rel, .sl ((g.args.map z1o).map TreeT.d)] := rfl
 obtain ⟨M, hM⟩ : ∃ M, M = g.args.map z1o := ⟨_, rfl⟩
 rw [← hM] at hgd
 have hMl : M.length = g.args.length := by rw [hM, List.length_map]
 have hMi : ∀ i (h : i < g.args.length), M[i] = z1o g.args[i] := fun i h => by simp only [hM, List.getElem_map]
 rw [hgd]
 refine z0f (ds := [g.d]) (rs := [.agg [.str g.rel, .sl (M.map TreeT.d)]]) T1.g11 rfl rfl (fun e w_len harg => ?_) st
 have w_len : e.length = 27 := w_len
 have w_0 := harg 0 (by simp)
 clear harg
 simp only [List.map_cons, List.map_nil, List.getD_cons_zero] at w_0
 simp only [T1.i11, GoalT.d, w_len, w_0, ↓LA, LB, simprocAttr]
 refine z09 (fun e0 s0 m env st => ∃ (i nxi lwi : Nat) (si : List (Nat × Obj)) (xv : V), m = g.args.length - i ∧ (i ≤ g.args.length) ∧ (Gr si false 7 0 nxi 2 true xv ((M.take i).map TreeT.d)) ∧ sget si (0) = some (.cells [.d (.str g.rel), .d (.sl (g.args.map TreeT.d))]) ∧ sget si (1) = some (.cells [.d (.str []), .nilS]) ∧ sget si (5) = some (.cells [.d (.str g.rel), xv]) ∧ 7 ≤ nxi ∧ 0 ≤ lwi ∧ env.length = 27 ∧ env.getD 4 .undef = .d (.int .i64 i) ∧ env.getD 1 .undef = .ptr 0 0 ∧ env.getD 2 .undef = .ptr 1 0 ∧ env.getD 3 .undef = .ptr 5 0 ∧ st = { s := si, next := nxi, low := lwi }) ?_ (g.args.length) (by refine ⟨0, _, _, _, .nilS, rfl, by omega, Gr.nil, ?_, ?_, ?_, (by omega), Nat.zero_le _, ?_, ?_, ?_, ?_, ?_, rfl⟩ <;> simp only [w_len, LB, simprocAttr])
 rintro m env st ⟨i, nxi, lwi, si, xv, hm, a_0, a_1, w_ac0, w_ac1, w_ac2, w_ab, w_alo, w_len, w_4, w_1, w_2, w_3, rfl⟩
 have w_aN := And.intro (cf1 (x := nxi) (a := 0) (by omega)) (And.intro (cf1 (x := nxi) (a := 1) (by omega)) (cf1 (x := nxi) (a := 5) (by omega)))
 have w_aS := And.intro (cf2 (x := nxi) (by omega) w_ac0) (And.intro (cf2 (x := nxi) (by omega) w_ac1) (cf2 (x := nxi) (by omega) w_ac2))
 have w_aZ := zf0 (x := nxi) (n := 7) (by omega)
 have w_a_1V := And.intro (a_1.away (j := 0) (by omega)) (And.intro (a_1.away (j := 1) (by omega)) (a_1.away (j := 5) (by omega)))
 have w_a_1c := a_1.cell.1
 have w_a_1d := a_1.cell.2
 have w_a_1e := a_1.beq
 by_cases hi : i < g.args.length
 ·have hi2 : i < M.length := by omega
  obtain ⟨h1, h2⟩ := hk _ (List.getElem_mem hi)
  obtain ⟨h3, h4⟩ := h1.nat
  have hD := fun st => zmd h1.gd h2 h3 h4 st
  rw [← hMi i hi] at hD
  simp only [TreeT.d] at hD
  simp only [hi, z19 hi, List.length_map, hD, w_len, w_4, w_1, w_3, w_ac0, w_ac2, w_aN, w_a_1e, ↓LA, LB, simprocAttr]
  refine z3z a_1 ?_ (z0h fun a => z1k) z01 ?_ ?_ ?_ ?_ ?_ fun chc0 hc0 => ?_
  ·intro j h1 h2; simp (disch := omega) only [z00]
  ·rfl
  ·omega
  ·simp; omega
  ·simp; omega
  ·exact rfl
  simp only [z02 hi (by omega), w_len, w_4, w_3, w_ac2, w_aN, w_a_1V, ↓LA, LB, simprocAttr]
  have hn : (M.take (i + 1)).map TreeT.d = (M.take i).map TreeT.d ++ [M[i].d] := by rw [z16 hi2, List.map_append]; rfl
  exact z08 (by refine ⟨_, by omega, i + 1, _, _, _, .arr (nxi + 14) 2 true 0 (((M.take i).map TreeT.d).length + 1), rfl, by omega, (by rw [hn]; exact z34 hc0 (by intro j h1 h2 h3; simp (disch := omega) only [z00, z04, z0d h3]) (by omega) (by omega) (by omega) z01 rfl ⟨CV.data, CV.int, trivial⟩), ?_, ?_, ?_, (by omega), Nat.zero_le _, ?_, ?_, ?_, ?_, ?_, rfl⟩ <;> simp only [w_len, w_1, w_2, w_3, w_ac0, w_ac1, w_ac2, w_aN, w_a_1V, LB, simprocAttr])
 ·have ht : M.take i = M := List.take_of_length_le (by omega)
  have hga := a_1
  rw [ht] at hga
  simp only [hi, List.length_map, w_len, w_4, w_1, w_2, w_3, w_ac0, w_ac1, w_ac2, w_aS, w_a_1c, ↓LA, LB, simprocAttr]
  refine rql1 (x := .agg [.str g.rel, .sl (M.map TreeT.d)]) (z5w (lv := false) (lo := 7) (n := 1) (hi := nxi) (m := 11) (by omega) (by decide) ⟨CV.str, (hga.frame (by intro j h1 h2; simp (disch := omega) only [z04])).cv (by omega) (z0h fun a => z1k), trivial⟩) rfl
end Go.Lift.K
namespace Go.Lift.K
open Go Go.Lift Classical
set_option maxRecDepth 100000
structure Lst (t : TreeT) : Prop where
 gdt : Ok t
 tok : t.ok
 root : t.root = 0
 sep : ∀ {c d}, c < t.nodes.length → d < t.nodes.length → bis t.nodes t.nodes c d → c = d
 same : z0u t.nodes 0 = t.nodes
theorem zjv {ns : List NodeT} (hg : Gd ns) {r : Nat} (hr : r < ns.length) : Gd (z0u ns r) := by
 have hn := hg.rt
 have hl := zbh hn hr
 have hgl := hg.len
 have hm : ∀ i, i < (z0u ns r).length → i < (z25 ns r).length := fun i hi => by unfold z0u at hi; rwa [List.length_map] at hi
 refine ⟨by omega, fun i hi => ?_, fun i hi k hk => ?_⟩
 ·rw [z9w (hm i hi)]
  unfold z1x
  rw [List.length_map, z2o]
  exact hg.kids _ (z59 hn hr (List.getElem_mem (hm i hi))).2
 ·have h1 : k.toNat ∈ kds (z0u ns r) i := List.mem_map.2 ⟨k, hk, rfl⟩
  have h2 := zjt hn hr i hi _ h1
  rw [z9w (hm i hi)] at hk
  obtain ⟨q, _, rfl⟩ := List.mem_map.1 hk
  simp at h2
  omega
theorem zbj {ns : List NodeT} (hn : Rt ns) {r : Nat} (hr : r < ns.length) {x : NodeT} (hx : x ∈ z0u ns r) : ∃ y ∈ ns, x.name = y.name := by
 obtain ⟨q, hq, rfl⟩ := List.mem_map.1 hx
 exact ⟨nd ns q, zjl (z59 hn hr hq).2, rfl⟩
theorem zpx {ns : List NodeT} (hg : Gd ns) (hk : ∀ x ∈ ns, x.ok) {r : Nat} (hr : r < ns.length) : TreeT.ok ⟨z0u ns r, 0⟩ := by
 have hgl := zjv hg hr
 have h60 := hgl.len
 refine ⟨⟨by unfold LOk; show (z0u ns r).length ≤ _; omega, fun x hx => ?_⟩, by unfold IOk; show -9223372036854775808 ≤ (0 : Int) ∧ (0 : Int) ≤ _; omega⟩
 obtain ⟨y, hy, e⟩ := zbj hg.rt hr hx
 obtain ⟨i, hi, rfl⟩ := List.mem_iff_getElem.1 hx
 have h4 := hgl.kids i hi
 have hlow := hgl.low i hi
 rw [z1w hi] at h4 hlow
 refine ⟨by rw [e]; exact (hk y hy).1, by unfold LOk; omega, fun k hk => ?_⟩
 have := hlow k hk
 unfold IOk; omega
theorem zwa {ns : List NodeT} (hg : Gd ns) (hk : ∀ x ∈ ns, x.ok) (hnm : ∀ x ∈ ns, z0x x.name = true) {r : Nat} (hr : r < ns.length) : Lst ⟨z0u ns r, 0⟩ where
 gdt := ⟨zjv hg hr, by show (0 : Int) ≤ 0; omega, by show (0 : Int) < (z0u ns r).length; have := zbh hg.rt hr; omega, fun x hx => by obtain ⟨y, hy, e⟩ := zbj hg.rt hr hx; rw [e]; exact hnm y hy⟩
 tok := zpx hg hk hr
 root := rfl
 sep := fun hc hd h => zpw hg.rt hr hc hd h
 same := zia hg.rt hr
theorem zg7 {t : TreeT} (h : Ok t) (ht : t.ok) : Lst (z1o t) := zwa h.gd ht.1.2 h.nm h.nat.2
theorem Lst.fix {t : TreeT} (h : Lst t) : z1o t = t := by
 have h1 := h.same
 have h2 := h.root
 unfold z1o
 rw [h2]
 show TreeT.mk (z0u t.nodes 0) 0 = t
 rw [h1, ← h2]
theorem Lst.pos {t : TreeT} (h : Lst t) : 0 < t.nodes.length := by
 have := h.gdt.rh
 rw [h.root] at this
 omega
noncomputable def subT (t : TreeT) (k : Nat) : TreeT := ⟨z0u t.nodes k, 0⟩
theorem Lst.from {t : TreeT} (h : Lst t) {k : Nat} (hk : k < t.nodes.length) : (⟨zgj t.nodes k, 0⟩ : TreeT) = subT t k := by
 unfold subT
 rw [zmi h.gdt.gd.rt hk h.sep]
theorem Lst.sub {t : TreeT} (h : Lst t) {k : Nat} (hk : k < t.nodes.length) : Lst (subT t k) := zwa h.gdt.gd h.tok.1.2 h.gdt.nm hk
theorem Lst.at_ {t : TreeT} (h : Lst t) {k : Nat} (hk : k < t.nodes.length) : Ok ⟨t.nodes, (k : Int)⟩ ∧ TreeT.ok ⟨t.nodes, (k : Int)⟩ ∧ z1o ⟨t.nodes, (k : Int)⟩ = subT t k := by
 have := h.gdt.gd.len
 exact ⟨⟨h.gdt.gd, by show (0 : Int) ≤ k; omega, by show (k : Int) < t.nodes.length; omega, h.gdt.nm⟩, ⟨h.tok.1, by unfold IOk; show _ ∧ (k : Int) ≤ _; constructor <;> (try show _ ≤ (k : Int)) <;> omega⟩, rfl⟩
def Lg (g : GoalT) : Prop := ∀ t ∈ g.args, Lst t
theorem z7t {g : GoalT} (h : Og g) : Lg (z18 g) := fun t ht => by
 obtain ⟨u, hu, rfl⟩ := List.mem_map.1 ht
 exact zg7 (h u hu).1 (h u hu).2
theorem Lg.og {g : GoalT} (h : Lg g) : Og g := fun t ht => ⟨(h t ht).gdt, (h t ht).tok⟩
theorem Lg.fix {g : GoalT} (h : Lg g) : z18 g = g := by
 unfold z18
 have : g.args.map z1o = g.args := by
  have : g.args.map z1o = g.args.map id := List.map_congr_left fun t ht => (h t ht).fix
  simpa using this
 rw [this]
theorem y0l {g : GoalT} (hg : g.ok) (h : Og g) : (z18 g).ok := by
 refine ⟨hg.1, by unfold LOk; show (g.args.map z1o).length ≤ _; rw [List.length_map]; exact hg.2.1, fun t ht => (z7t h t ht).tok⟩
theorem zu1 {g : GoalT} (h : Lg g) : ∀ t ∈ g.args, t.nodes.length ≤ 1000000 ∧ ∀ x ∈ t.nodes, x.kids.length ≤ 1000000 := fun t ht => by
 have h1 := (h t ht).gdt.gd
 have h2 := h1.len
 refine ⟨by omega, fun x hx => ?_⟩
 obtain ⟨i, hi, rfl⟩ := List.mem_iff_getElem.1 hx
 have := h1.kids i hi
 rw [z1w hi] at this
 omega
theorem zxp {g : GoalT} (hg : g.ok) (h : z0p z0c g.args = 0) : Og g := fun t ht => by
 refine ⟨z8c ?_, hg.2.2 t ht⟩
 apply Classical.byContradiction
 intro h0
 unfold z0p at h
 cases hf : g.args.find? (fun t => decide (z0c t ≠ 0)) with
 | none =>
  rw [List.find?_eq_none] at hf
  have := hf t ht
  simp at this
  exact h0 this
 | some u =>
  rw [hf] at h
  have := List.find?_some hf
  simp at this
  exact this h
noncomputable def zfq (a b : GoalT) : Bool := decide (z0p z0c a.args = 0) && (decide (z0p z0c b.args = 0) && decide (z18 a = z18 b))
theorem zfr {a b : GoalT} (ha : a.ok) (hb : b.ok) (hal : a.args.length ≤ 1000000) (hbl : b.args.length ≤ 1000000) (st : St) :
  z05 G (.fn 17 [] []) [.d a.d, .d b.d] st = some (.d (.bool (zfq a b)), st) := by
 have hA := fun st => zfd ha.2.1 ha.2.2 st
 have hB := fun st => zfd hb.2.1 hb.2.2 st
 refine z0f (ds := [a.d, b.d]) (rs := [.bool (zfq a b)]) T1.g17 rfl rfl (fun e w_len harg => ?_) st
 have w_len : e.length = 22 := w_len
 have w_0 := harg 0 (by simp)
 have w_1 := harg 1 (by simp)
 clear harg
 simp only [List.map_cons, List.map_nil, List.getD_cons_zero, List.getD_cons_succ] at w_0 w_1
 by_cases h1 : z0p z0c a.args = 0
 ·by_cases h2 : z0p z0c b.args = 0
  ·have oa := zxp ha h1
   have ob := zxp hb h2
   have hLa := fun st => z6j hal oa st
   have hLb := fun st => z6j hbl ob st
   have hE := fun st => zml (y0l ha oa) (y0l hb ob) (by show (a.args.map z1o).length ≤ _; rw [List.length_map]; exact hal) (zu1 (z7t oa)) st
   simp only [GoalT.d] at hLa hLb hE
   simp only [T1.i17, GoalT.d, hA, hB, h1, h2, hLa, hLb, hE, w_len, w_0, w_1, ↓LA, LB, simprocAttr]
   exact rq1 (by simp [zfq, h1, h2])
  ·simp only [T1.i17, GoalT.d, hA, hB, h1, h2, w_len, w_0, w_1, ↓LA, LB, simprocAttr]
   exact rq1 (by simp [zfq, h1, h2])
 ·simp only [T1.i17, GoalT.d, hA, h1, w_len, w_0, w_1, ↓LA, LB, simprocAttr]
  exact rq1 (by simp [zfq, h1])
end Go.Lift.K
namespace Go.Lift.K
open Go Go.Lift Classical
set_option maxRecDepth 100000
theorem NodeT.inj {a b : NodeT} (h : a.d = b.d) : a = b := by
 cases a; cases b
 simp only [NodeT.d, D.agg.injEq, List.cons.injEq, D.str.injEq, D.sl.injEq, and_true] at h
 obtain ⟨h1, h2⟩ := h
 rw [h1, (List.map_inj_right (f := D.int .i64) (fun x y e => by injection e)).1 h2]
theorem TreeT.inj {a b : TreeT} (h : a.d = b.d) : a = b := by
 cases a; cases b
 simp only [TreeT.d, D.agg.injEq, List.cons.injEq, D.int.injEq, D.sl.injEq, and_true, true_and] at h
 obtain ⟨h1, h2⟩ := h
 rw [h2, (List.map_inj_right (f := NodeT.d) (fun x y e => NodeT.inj e)).1 h1]
noncomputable def alP (x y : D) : Bool := decide (∃ a b : TreeT, a.d = x ∧ b.d = y ∧ z5g a b = true)
theorem y1s {a b : TreeT} : alP a.d b.d = z5g a b := by
 unfold alP
 rw [Bool.eq_iff_iff, decide_eq_true_eq]
 refine ⟨?_, fun h => ⟨a, b, rfl, rfl, h⟩⟩
 rintro ⟨a', b', h1, h2, h⟩
 rw [TreeT.inj h1, TreeT.inj h2] at h
 exact h
theorem zcb {a b : TreeT} : z5g a b = true ↔ z0c a = 0 ∧ z0c b = 0 ∧ z1o a = z1o b := by
 unfold z5g
 simp only [Bool.and_eq_true, decide_eq_true_eq]
 refine and_congr_right fun h1 => and_congr_right fun h2 => ?_
 have oa := z8c h1
 have ob := z8c h2
 rw [← zpy oa.gd.rt ob.gd.rt oa.nat.2 ob.nat.2]
 unfold z1o
 exact ⟨fun h => by rw [h], fun h => by injection h⟩
theorem zwi {l : List TreeT} : z0p z0c l = 0 ↔ ∀ t ∈ l, z0c t = 0 := by
 unfold z0p
 constructor
 ·intro h t ht
  apply Classical.byContradiction
  intro h0
  cases hf : l.find? (fun t => decide (z0c t ≠ 0)) with
  | none =>
   rw [List.find?_eq_none] at hf
   have := hf t ht
   simp at this
   exact h0 this
  | some u =>
   rw [hf] at h
   have := List.find?_some hf
   simp at this
   exact this h
 ·intro h
  have : l.find? (fun t => decide (z0c t ≠ 0)) = none := by
   rw [List.find?_eq_none]
   intro x hx
   simp [h x hx]
  rw [this]
theorem zha : ∀ {l m : List TreeT}, all2 alP (l.map TreeT.d) (m.map TreeT.d) = true ↔ (∀ t ∈ l, z0c t = 0) ∧ (∀ t ∈ m, z0c t = 0) ∧ l.map z1o = m.map z1o
 | [], [] => by simp [all2]
 | [], _ :: _ => by simp [all2]
 | _ :: _, [] => by simp [all2]
 | x :: l, y :: m => by
  simp only [List.map_cons, all2, Bool.and_eq_true, y1s, zcb, zha (l := l) (m := m), List.forall_mem_cons, List.cons.injEq]
  constructor
  ·rintro ⟨⟨a1, a2, a3⟩, b1, b2, b3⟩; exact ⟨⟨a1, b1⟩, ⟨a2, b2⟩, a3, b3⟩
  ·rintro ⟨⟨a1, b1⟩, ⟨a2, b2⟩, a3, b3⟩; exact ⟨⟨a1, a2, a3⟩, b1, b2, b3⟩
theorem zxe {a b : GoalT} : zfq a b = (decide (a.rel = b.rel) && all2 alP (a.args.map TreeT.d) (b.args.map TreeT.d)) := by
 have hg : z18 a = z18 b ↔ a.rel = b.rel ∧ a.args.map z1o = b.args.map z1o := by unfold z18; simp
 rw [Bool.eq_iff_iff, zfq, Bool.and_eq_true, Bool.and_eq_true, Bool.and_eq_true, decide_eq_true_eq, decide_eq_true_eq, decide_eq_true_eq, decide_eq_true_eq, zha, zwi, zwi, hg]
 constructor
 ·rintro ⟨h1, h2, h3, h4⟩; exact ⟨h3, h1, h2, h4⟩
 ·rintro ⟨h3, h1, h2, h4⟩; exact ⟨h1, h2, h3, h4⟩
theorem zt4 {a b : TreeT} (ha : a.ok) (hb : b.ok) (st : St) : z05 G (.fn 56 [] []) [.d a.d, .d b.d] st = some (.d (.bool (z5g a b)), st) := by
 have hA := fun st => zlc ha hb st
 simp only [TreeT.d] at hA
 have hx0 : ∀ a b : V, [a, b][0]? = some a := fun _ _ => rfl
 have hx1 : ∀ a b : V, [a, b][1]? = some b := fun _ _ => rfl
 refine z0f (ds := [a.d, b.d]) (rs := [.bool (z5g a b)]) T1.g56 rfl rfl (fun e w_len harg => ?_) st
 have w_len : e.length = 18 := w_len
 have w_0 := harg 0 (by simp)
 have w_1 := harg 1 (by simp)
 clear harg
 simp only [List.map_cons, List.map_nil, List.getD_cons_zero, List.getD_cons_succ] at w_0 w_1
 cases h1 : z5g a b with
 | true =>
  obtain ⟨e1, e2, _⟩ := zcb.1 h1
  have e0 : z0p z0c [a, b] = 0 := by rw [zbu, if_pos e1, e2]
  rw [h1, e0] at hA
  simp only [T1.i56, TreeT.d, hA, hx0, hx1, w_len, w_0, w_1, ↓LA, LB, simprocAttr]
  exact rq1 (by simp)
 | false =>
  rw [h1] at hA
  simp only [T1.i56, TreeT.d, hA, hx0, hx1, w_len, w_0, w_1, ↓LA, LB, simprocAttr]
  exact rq1 (by simp)
theorem zj8 {a b : GoalT} (ha : a.ok) (hb : b.ok) (st : St) : z05 G (.fn 16 [] []) [.d a.d, .d b.d] st = some (.d (.bool (zfq a b)), st) := by
 have hl := ha.2.1
 unfold LOk at hl
 have hE := fun (s : List (Nat × Obj)) (nx lw : Nat) => y16 (s := s) (nx := nx) (lw := lw) (l := a.args.map TreeT.d) (m := b.args.map TreeT.d) (p := alP) (fv := .fn 56 [] []) T1.g54 rfl (by simpa using hl) (z0h fun a => z1k) (z0h fun a => z1k) (fun x y ⟨hx, hy⟩ s' nx lw _ _ => by
  obtain ⟨u, hu, rfl⟩ := List.mem_map.1 hx
  obtain ⟨v, hv, rfl⟩ := List.mem_map.1 hy
  rw [y1s]
  exact zt4 (ha.2.2 u hu) (hb.2.2 v hv) _)
 rw [zxe]
 refine z0f (ds := [a.d, b.d]) (rs := [.bool (decide (a.rel = b.rel) && all2 alP (a.args.map TreeT.d) (b.args.map TreeT.d))]) T1.g16 rfl rfl (fun e w_len harg => ?_) st
 have w_len : e.length = 17 := w_len
 have w_0 := harg 0 (by simp)
 have w_1 := harg 1 (by simp)
 clear harg
 simp only [List.map_cons, List.map_nil, List.getD_cons_zero, List.getD_cons_succ] at w_0 w_1
 by_cases h1 : a.rel = b.rel
 ·simp only [T1.i16, GoalT.d, h1, hE, w_len, w_0, w_1, ↓LA, LB, simprocAttr]
  exact rq1 (by simp)
 ·simp only [T1.i16, GoalT.d, h1, w_len, w_0, w_1, ↓LA, LB, simprocAttr]
  exact rq1 (by simp)
end Go.Lift.K
