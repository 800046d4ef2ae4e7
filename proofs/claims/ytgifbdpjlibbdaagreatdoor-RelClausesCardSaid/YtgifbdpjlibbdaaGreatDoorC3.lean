/- Part C3 of the proof. -/
import Derived.Test.YtgifbdpjlibbdaaGreatDoorB9
import Derived.Test.YtgifbdpjlibbdaaGreatDoorA7
set_option linter.all false
namespace Go.Lift.K
open Go Go.Lift Classical
set_option maxRecDepth 100000
def hd (c : ClauseT) (i : Nat) : PatT := c.head.getD i ⟨[], []⟩
def ar (g : GoalT) (i : Nat) : TreeT := g.args.getD i ⟨[], 0⟩
def fitP (p : PatT) (t : TreeT) : Prop := p.name = [] ∨ ((nd t.nodes 0).name = p.name ∧ (nd t.nodes 0).kids.length = p.vars.length)
noncomputable def subP (p : PatT) (t : TreeT) (k : Nat) : TreeT := if p.name = [] then t else subT t (kid t.nodes 0 k)
noncomputable def subE (c : ClauseT) (g : GoalT) (i k : Nat) : List Nat × TreeT := ((hd c i).vars.getD k [], subP (hd c i) (ar g i) k)
noncomputable def bndN (c : ClauseT) (g : GoalT) (n : Nat) : List (List Nat × TreeT) := (List.range n).flatMap fun i => (List.range (hd c i).vars.length).map (subE c g i)
noncomputable def bndA (c : ClauseT) (g : GoalT) (i k : Nat) : List (List Nat × TreeT) := bndN c g i ++ (List.range k).map (subE c g i)
def z80 (l : List (List Nat × TreeT)) : Prop := ∀ x ∈ l, ∀ y ∈ l, x.1 = y.1 → x.2 = y.2
def fitS (c : ClauseT) (g : GoalT) : Prop := c.rel = g.rel ∧ (∀ i, i < c.head.length → fitP (hd c i) (ar g i)) ∧ z80 (bndN c g c.head.length)
section
variable {c : ClauseT} {g : GoalT} {i k n : Nat}
theorem zgf (h : i < c.head.length) : hd c i = c.head[i] := by simp [hd, h]
theorem zz7 (h : i < g.args.length) : ar g i = g.args[i] := by simp [ar, h]
theorem z2x : bndA c g i 0 = bndN c g i := by simp [bndA]
theorem z85 : bndA c g i (k + 1) = bndA c g i k ++ [subE c g i k] := by simp [bndA, List.range_succ]
theorem z69 : bndA c g i (hd c i).vars.length = bndN c g (i + 1) := by simp [bndA, bndN, List.range_succ]
theorem z6p {x : List Nat × TreeT} : x ∈ bndN c g n ↔ ∃ i, i < n ∧ ∃ k, k < (hd c i).vars.length ∧ subE c g i k = x := by
 simp [bndN]
theorem z9o (hi : i < n) (hk : k < (hd c i).vars.length) : subE c g i k ∈ bndN c g n := z6p.2 ⟨i, hi, k, hk, rfl⟩
theorem za8 {x : List Nat × TreeT} (hi : i < n) (hk : k ≤ (hd c i).vars.length) (h : x ∈ bndA c g i k) : x ∈ bndN c g n := by
 rcases List.mem_append.1 h with h | h
 ·obtain ⟨j, hj, q, hq, e⟩ := z6p.1 h
  exact z6p.2 ⟨j, by omega, q, hq, e⟩
 ·obtain ⟨q, hq, e⟩ := List.mem_map.1 h
  rw [List.mem_range] at hq
  exact z6p.2 ⟨i, hi, q, by omega, e⟩
theorem zl2 {m : Nat} (h : ∀ i, i < n → (hd c i).vars.length ≤ m) : (bndN c g n).length ≤ n * m := by
 induction n with
 | zero => simp [bndN]
 | succ n ih =>
  have h1 := ih fun i hi => h i (by omega)
  have h2 := h n (by omega)
  have h3 : (n + 1) * m = n * m + m := Nat.succ_mul n m
  unfold bndN at h1 ⊢
  rw [List.range_succ, List.flatMap_append, List.length_append]
  simp only [List.flatMap_cons, List.flatMap_nil, List.append_nil, List.length_map, List.length_range]
  omega
theorem zl3 {m : Nat} (hm : k ≤ m) (h : ∀ q, q < i → (hd c q).vars.length ≤ m) : (bndA c g i k).length ≤ i * m + m := by
 have := zl2 (g := g) h
 unfold bndA
 rw [List.length_append, List.length_map, List.length_range]
 omega
theorem zi6 (hg : Lg g) (hl : i < g.args.length) (hf : fitP (hd c i) (ar g i)) (hk : k < (hd c i).vars.length) : Lst (subE c g i k).2 := by
 have ht := hg _ (List.getElem_mem hl)
 show Lst (subP (hd c i) (ar g i) k)
 rw [zz7 hl] at hf ⊢
 unfold subP
 by_cases hn : (hd c i).name = []
 ·rw [if_pos hn]; exact ht
 ·rw [if_neg hn]
  obtain ⟨_, h2⟩ := hf.resolve_left hn
  exact ht.sub (ht.gdt.gd.rt 0 ht.pos _ (z3c (by rw [h2]; exact hk)))
theorem _root_.Go.Lift.K.Lst.small {t : TreeT} (h : Lst t) : t.nodes.length ≤ 1000000 ∧ ∀ x ∈ t.nodes, x.kids.length ≤ 1000000 := by
 have h2 := h.gdt.gd.len
 refine ⟨by omega, fun x hx => ?_⟩
 obtain ⟨i, hi, rfl⟩ := List.mem_iff_getElem.1 hx
 have := h.gdt.gd.kids i hi
 rw [z1w hi] at this
 omega
theorem zeh (hg : Lg g) (hl : ∀ i, i < n → i < g.args.length) (hf : ∀ i, i < n → fitP (hd c i) (ar g i)) : ∀ x ∈ bndN c g n, Lst x.2 := by
 intro x hx
 obtain ⟨i, hi, k, hk, rfl⟩ := z6p.1 hx
 exact zi6 hg (hl i hi) (hf i hi) hk
theorem zeg (hg : Lg g) (hl : ∀ q, q ≤ i → q < g.args.length) (hf : ∀ q, q ≤ i → fitP (hd c q) (ar g q)) (hk : k ≤ (hd c i).vars.length) : ∀ x ∈ bndA c g i k, Lst x.2 := fun x hx =>
 zeh (n := i + 1) hg (fun q hq => hl q (by omega)) (fun q hq => hf q (by omega)) x (za8 (by omega) hk hx)
theorem z64 {l : List (List Nat × TreeT)} {y : List Nat × TreeT} (h : z80 l) (hy : ∀ x ∈ l, x.1 = y.1 → x.2 = y.2) : z80 (l ++ [y]) := by
 intro a ha b hb e
 rcases List.mem_append.1 ha with h1 | h1 <;> rcases List.mem_append.1 hb with h2 | h2
 ·exact h a h1 b h2 e
 ·rw [List.mem_singleton] at h2; rw [h2] at e ⊢; exact hy a h1 e
 ·rw [List.mem_singleton] at h1; rw [h1] at e ⊢; exact (hy b h2 e.symm).symm
 ·rw [List.mem_singleton] at h1 h2; rw [h1, h2]
end
theorem cvs0 {s : List (Nat × Obj)} {lv : Bool} {S : Nat → Prop} : ∀ {cs : List V} {ds : List D}, CVs (CQ s lv S 0) cs ds → cs = ds.map V.d
 | [], [], _ => rfl
 | [], _ :: _, h => h.elim
 | _ :: _, [], h => h.elim
 | v :: cs, d :: ds, h => by
  obtain ⟨h1, h2⟩ := h
  rw [cvs0 h2]
  obtain ⟨rfl, _⟩ := h1
  rfl
theorem zvo : ∀ {l : List TreeT} {j : Nat} (h : j < l.length), j * 2 + 2 ≤ (((l.map TreeT.d).flatMap cellsD).map V.d).length ∧ ((((l.map TreeT.d).flatMap cellsD).map V.d).drop (j * 2)).take 2 = [.d (.sl (l[j].nodes.map NodeT.d)), .d (.int .i64 l[j].root)]
 | t :: l, 0, _ => ⟨by simp [TreeT.d, cellsD], rfl⟩
 | t :: l, j + 1, h => by
  have h' : j < l.length := by simp at h; omega
  obtain ⟨h1, h2⟩ := zvo h'
  have e : (j + 1) * 2 = j * 2 + 1 + 1 := by omega
  have e2 : (((t :: l).map TreeT.d).flatMap cellsD).map V.d = V.d (.sl (t.nodes.map NodeT.d)) :: V.d (.int .i64 t.root) :: (((l.map TreeT.d).flatMap cellsD).map V.d) := rfl
  rw [e2, e]
  refine ⟨by simp only [List.length_cons]; omega, ?_⟩
  rw [List.drop_succ_cons, List.drop_succ_cons, h2]
  rfl
theorem zvn {s : List (Nat × Obj)} {lv : Bool} {S : Nat → Prop} {v : V} {l : List TreeT} (h : GP s lv S 0 2 true v (l.map TreeT.d)) {j : Nat} (hj : j < l.length) :
  ∃ k cs, v = .arr k 2 true 0 l.length ∧ S k ∧ sget s k = some (.cells cs) ∧ V.beqL cs cs = true ∧ z0k 2 v (j : Int) = some (.ptr k (j * 2)) ∧
   (j * 2 + 2 ≤ cs.length) = True ∧ (cs.drop (j * 2)).take 2 = [.d (.sl (l[j].nodes.map NodeT.d)), .d (.int .i64 l[j].root)] := by
 rcases h with ⟨_, e⟩ | ⟨k, cs, rfl, h1, h2, h3⟩
 ·cases l with
  | nil => simp at hj
  | cons x l => simp at e
 ·have hb := h3.beq
  have e := cvs0 h3
  subst e
  obtain ⟨k1, k2⟩ := zvo hj
  refine ⟨k, _, by simp, h1, h2, hb, ?_, eq_true k1, k2⟩
  rw [List.length_map]
  exact z78 hj
theorem zst {s : List (Nat × Obj)} {u v w : V} {a b c : D} (h1 : snap s 0 z07 u = some a) (h2 : snap s 0 z07 v = some b) (h3 : snap s 0 z07 w = some c) : z0o s 0 [u, v, w] = some [a, b, c] := by
 simp [z0o, h1, h2, h3]
theorem rql3 {s : List (Nat × Obj)} {u v w : V} {x y z : D} {rs : List D} (h1 : snap s 0 z07 u = some x) (h2 : snap s 0 z07 v = some y) (h3 : snap s 0 z07 w = some z) (h : [x, y, z] = rs) : RQ (some [u, v, w]) s rs := ⟨_, rfl, by rw [← h]; exact zst h1 h2 h3⟩
noncomputable def zcf (c : ClauseT) (g : GoalT) : List D := if fitS c g then [.sl (((bndN c g c.head.length).map Prod.fst).map D.str), .sl (((bndN c g c.head.length).map Prod.snd).map TreeT.d), .bool true] else [.sl [], .sl [], .bool false]
set_option maxHeartbeats 8000000 in
theorem zqx {c : ClauseT} {g : GoalT} (hg : Lg g) (hgk : g.args.length ≤ 1000) (hch : c.head.length ≤ 1000) (hch2 : c.rel = g.rel → c.head.length = g.args.length) (hcv : ∀ p ∈ c.head, p.vars.length ≤ 4) (st : St) :
  z05 G (.fn 47 [] []) [.d c.d, .d g.d] st = some (tupV ((zcf c g).map V.d), st) := by
 have hxn : ∀ s : List (Nat × Obj), snap s 0 z07 .nilS = some (.sl []) := fun s => rfl
 refine z0f (ds := [c.d, g.d]) (rs := zcf c g) T1.g47 rfl rfl (fun e w_len harg => ?_) st
 have w_len : e.length = 118 := w_len
 have w_0 := harg 0 (by simp)
 have w_1 := harg 1 (by simp)
 clear harg
 simp only [List.map_cons, List.map_nil, List.getD_cons_zero, List.getD_cons_succ] at w_0 w_1
 by_cases hrel : c.rel = g.rel
 ·have hlen := hch2 hrel
  simp only [T1.i47, ClauseT.d, GoalT.d, hrel, w_len, w_0, w_1, ↓LA, LB, simprocAttr]
  refine z09 (fun e0 s0 m env st => ∃ (i nxi lwi : Nat) (si : List (Nat × Obj)) (xv xb : V), m = c.head.length - i ∧ (i ≤ c.head.length) ∧ (GP si false (fun q => 2 ≤ q ∧ q < nxi ∧ ¬ away xv q) 0 1 false xv (((bndN c g i).map Prod.fst).map D.str)) ∧ (GP si false (fun q => 2 ≤ q ∧ q < nxi ∧ away xv q) 0 2 true xb (((bndN c g i).map Prod.snd).map TreeT.d)) ∧ (z80 (bndN c g i)) ∧ (∀ q, q < i → fitP (hd c q) (ar g q)) ∧ sget si (0) = some (.cells [.d (.str g.rel), .d (.sl (c.head.map PatT.d)), .d (.sl (c.body.map PatT.d))]) ∧ sget si (1) = some (.cells [.d (.str g.rel), .d (.sl (g.args.map TreeT.d))]) ∧ 2 ≤ nxi ∧ 0 ≤ lwi ∧ env.length = 118 ∧ env.getD 9 .undef = .d (.int .i64 i) ∧ env.getD 2 .undef = .ptr 0 0 ∧ env.getD 3 .undef = .ptr 1 0 ∧ env.getD 7 .undef = xv ∧ env.getD 8 .undef = xb ∧ st = { s := si, next := nxi, low := lwi }) ?_ (c.head.length) (by refine ⟨0, _, _, _, .nilS, .nilS, rfl, by omega, GP.nil, GP.nil, (fun x hx => by simp [bndN] at hx), (fun q hq => by omega), ?_, ?_, (by omega), Nat.zero_le _, ?_, ?_, ?_, ?_, ?_, ?_, rfl⟩ <;> simp only [w_len, LB, simprocAttr])
  rintro m env st ⟨i, nxi, lwi, si, xv, xb, hm, a_0, a_1, a_2, a_3, a_4, w_ac0, w_ac1, w_ab, w_alo, w_len, w_9, w_2, w_3, w_7, w_8, rfl⟩
  have w_aN := And.intro (cf1 (x := nxi) (a := 0) (by omega)) (cf1 (x := nxi) (a := 1) (by omega))
  have w_aS := And.intro (cf2 (x := nxi) (by omega) w_ac0) (cf2 (x := nxi) (by omega) w_ac1)
  have w_aZ := zf0 (x := nxi) (n := 2) (by omega)
  have w_a_1V := And.intro (a_1.away (j := 0) (by omega)) (a_1.away (j := 1) (by omega))
  have w_a_1c := a_1.cell.1
  have w_a_1d := a_1.cell.2
  have w_a_1e := a_1.beq
  have w_a_2V := And.intro (a_2.away (j := 0) (by omega)) (a_2.away (j := 1) (by omega))
  have w_a_2c := a_2.cell.1
  have w_a_2d := a_2.cell.2
  have w_a_2e := a_2.beq
  by_cases hi : i < c.head.length
  ·have hig : i < g.args.length := by omega
   have ht := hg _ (List.getElem_mem hig)
   have hpos := ht.pos
   have hgd := ht.gdt.gd
   have hn0 : z0k 2 (.d (.sl (g.args[i].nodes.map NodeT.d))) 0 = some (.dptr [.str g.args[i].nodes[0].name, .sl (g.args[i].nodes[0].kids.map (D.int .i64))]) := z0j (i := 0) hpos
   have hnd0 := z1w hpos
   have hhd := zgf hi
   have har := zz7 hig
   have hv4 := hcv _ (List.getElem_mem hi)
   by_cases hnm : c.head[i].name = []
   ·have hfp : fitP (hd c i) (ar g i) := .inl (by rw [hhd]; exact hnm)
    simp only [hi, z0t hi, z19 hig, hn0, hnm, List.length_map, w_len, w_9, w_2, w_3, w_ac0, w_ac1, w_aN, ↓LA, LB, simprocAttr]
    refine z09 (fun e0 s0 m env st => ∃ (k nxk lwk : Nat) (sk : List (Nat × Obj)) (xw xd : V), m = c.head[i].vars.length - k ∧ (k ≤ c.head[i].vars.length) ∧ (GP sk false (fun q => 2 ≤ q ∧ q < nxk ∧ (q < nxi ∨ nxi + 24 ≤ q) ∧ ¬ away xw q) 0 1 false xw (((bndA c g i k).map Prod.fst).map D.str)) ∧ (GP sk false (fun q => 2 ≤ q ∧ q < nxk ∧ (q < nxi ∨ nxi + 24 ≤ q) ∧ away xw q) 0 2 true xd (((bndA c g i k).map Prod.snd).map TreeT.d)) ∧ (z80 (bndA c g i k)) ∧ sget sk (0) = some (.cells [.d (.str g.rel), .d (.sl (c.head.map PatT.d)), .d (.sl (c.body.map PatT.d))]) ∧ sget sk (1) = some (.cells [.d (.str g.rel), .d (.sl (g.args.map TreeT.d))]) ∧ sget sk (nxi + 15) = some (.cells [.d (.str []), .d (.sl (c.head[i].vars.map D.str))]) ∧ sget sk (nxi + 16) = some (.cells [.d (.sl (g.args[i].nodes.map NodeT.d)), .d (.int .i64 g.args[i].root)]) ∧ sget sk (nxi + 23) = some (.cells [.d (.str g.args[i].nodes[0].name), .d (.sl (g.args[i].nodes[0].kids.map (D.int .i64)))]) ∧ nxi + 24 ≤ nxk ∧ 0 ≤ lwk ∧ env.length = 118 ∧ env.getD 13 .undef = .d (.int .i64 k) ∧ env.getD 2 .undef = .ptr 0 0 ∧ env.getD 3 .undef = .ptr 1 0 ∧ env.getD 7 .undef = xw ∧ env.getD 8 .undef = xd ∧ env.getD 9 .undef = .d (.int .i64 i) ∧ env.getD 10 .undef = .ptr (nxi + 15) 0 ∧ env.getD 11 .undef = .ptr (nxi + 16) 0 ∧ env.getD 12 .undef = .ptr (nxi + 23) 0 ∧ st = { s := sk, next := nxk, low := lwk }) ?_ (c.head[i].vars.length) (by refine ⟨0, _, _, _, xv, xb, rfl, by omega, (by rw [z2x]; exact (a_1.frame (by intro q hq; obtain ⟨h1, h2, h3⟩ := hq; simp (disch := omega) only [z00])).mono (fun q hq => ⟨hq.1, by have := hq.2.1; omega, .inl hq.2.1, hq.2.2⟩)), (by rw [z2x]; exact (a_2.frame (by intro q hq; obtain ⟨h1, h2, h3⟩ := hq; simp (disch := omega) only [z00])).mono (fun q hq => ⟨hq.1, by have := hq.2.1; omega, .inl hq.2.1, hq.2.2⟩)), (by rw [z2x]; exact a_3), ?_, ?_, ?_, ?_, ?_, (by omega), Nat.zero_le _, ?_, ?_, ?_, ?_, ?_, ?_, ?_, ?_, ?_, ?_, rfl⟩ <;> simp only [w_len, w_9, w_2, w_3, w_7, w_8, w_ac0, w_ac1, w_aN, LB, simprocAttr])
    rintro m env st ⟨k, nxk, lwk, sk, xw, xd, hm, b_0, b_1, b_2, b_3, w_bc0, w_bc1, w_bc2, w_bc3, w_bc4, w_bb, w_blo, w_len, w_13, w_2, w_3, w_7, w_8, w_9, w_10, w_11, w_12, rfl⟩
    have w_bN := And.intro (cf1 (x := nxk) (a := 0) (by omega)) (And.intro (cf1 (x := nxk) (a := 1) (by omega)) (And.intro (cf1 (x := nxk) (a := nxi + 15) (by omega)) (And.intro (cf1 (x := nxk) (a := nxi + 16) (by omega)) (cf1 (x := nxk) (a := nxi + 23) (by omega)))))
    have w_bS := And.intro (cf2 (x := nxk) (by omega) w_bc0) (And.intro (cf2 (x := nxk) (by omega) w_bc1) (And.intro (cf2 (x := nxk) (by omega) w_bc2) (And.intro (cf2 (x := nxk) (by omega) w_bc3) (cf2 (x := nxk) (by omega) w_bc4))))
    have w_bZ := And.intro (zf (x := nxk) (b := nxi) (n := 24) (by omega) (by omega)) (zf0 (x := nxk) (n := 2) (by omega))
    have w_b_1V := And.intro (b_1.away (j := 0) (by omega)) (And.intro (b_1.away (j := 1) (by omega)) (And.intro (b_1.away (j := nxi + 15) (by omega)) (And.intro (b_1.away (j := nxi + 16) (by omega)) (And.intro (b_1.away (j := nxi + 23) (by omega)) (b_1.away (j := nxk + 6) (by omega))))))
    have w_b_1c := b_1.cell.1
    have w_b_1d := b_1.cell.2
    have w_b_1e := b_1.beq
    have w_b_2V := And.intro (b_2.away (j := 0) (by omega)) (And.intro (b_2.away (j := 1) (by omega)) (And.intro (b_2.away (j := nxi + 15) (by omega)) (And.intro (b_2.away (j := nxi + 16) (by omega)) (And.intro (b_2.away (j := nxi + 23) (by omega)) (b_2.away (j := nxk + 6) (by omega))))))
    have w_b_2c := b_2.cell.1
    have w_b_2d := b_2.cell.2
    have w_b_2e := b_2.beq
    by_cases hk : k < c.head[i].vars.length
    ·have hAl := zl3 (c := c) (g := g) (i := i) (k := k) (m := 4) (by omega) (fun q hq => by rw [zgf (by omega : q < c.head.length)]; exact hcv _ (List.getElem_mem _))
     have hAL := zeg (c := c) (g := g) (i := i) (k := k) hg (fun q hq => by omega) (fun q hq => if h : q = i then (by rw [h]; exact hfp) else a_4 q (by omega)) (by rw [hhd]; omega)
     have hUL := zi6 (c := c) (k := k) hg hig hfp (by rw [hhd]; exact hk)
     have hsv : (subE c g i k).1 = c.head[i].vars[k] := by show (hd c i).vars.getD k [] = _; rw [hhd]; simp [hk]
     have hmem := z9o (c := c) (g := g) (i := i) (k := k) (n := c.head.length) hi (by rw [hhd]; exact hk)
     have hsub : ∀ x ∈ bndA c g i k, x ∈ bndN c g c.head.length := fun x hx => za8 hi (by rw [hhd]; omega) hx
     obtain ⟨U, hU⟩ : ∃ U, U = (subE c g i k).2 := ⟨_, rfl⟩
     have hUe : U = g.args[i] := by rw [hU]; show subP (hd c i) (ar g i) k = _; unfold subP; rw [hhd, har, if_pos hnm]
     rw [← hU] at hUL
     have hbs := z85 (c := c) (g := g) (i := i) (k := k)
     have hse : subE c g i k = (c.head[i].vars[k], U) := by rw [← hsv, hU]
     rw [hse] at hbs hmem
     obtain ⟨A, hA⟩ : ∃ A, A = bndA c g i k := ⟨_, rfl⟩
     rw [← hA] at b_1 b_2 b_3 hAl hAL hsub hbs
     have hl1 := b_1.len
     simp only [List.length_map] at hl1
     subst hUe
     simp only [hk, List.length_map, w_len, w_13, w_10, w_11, w_bc2, w_bc3, w_bN, ↓LA, LB, simprocAttr]
     refine z09 (fun e0 s0 m env st => ∃ (n nxn : Nat), m = A.length - n ∧ (n ≤ A.length) ∧ (∀ q (h : q < A.length), q < n → A[q].1 = c.head[i].vars[k] → A[q].2 = g.args[i]) ∧ (nxk + 12 ≤ nxn) ∧ env.length = 118 ∧ env.getD 15 .undef = .d (.int .i64 n) ∧ env.getD 2 .undef = .ptr 0 0 ∧ env.getD 3 .undef = .ptr 1 0 ∧ env.getD 7 .undef = xw ∧ env.getD 8 .undef = xd ∧ env.getD 9 .undef = .d (.int .i64 i) ∧ env.getD 10 .undef = .ptr (nxi + 15) 0 ∧ env.getD 11 .undef = .ptr (nxi + 16) 0 ∧ env.getD 12 .undef = .ptr (nxi + 23) 0 ∧ env.getD 13 .undef = .d (.int .i64 k) ∧ env.getD 14 .undef = .ptr (nxk + 6) 0 ∧ st = { s := s0.s, next := nxn, low := s0.low }) ?_ (A.length) (by refine ⟨0, _, rfl, by omega, fun q h h' => by omega, by omega, ?_, ?_, ?_, ?_, ?_, ?_, ?_, ?_, ?_, ?_, ?_, ?_, rfl⟩ <;> simp only [w_len, w_13, w_2, w_3, w_7, w_8, w_9, w_10, w_11, w_12, LB, simprocAttr])
     rintro m env st ⟨n, nxn, hm, m_0, m_1, m_2, w_len, w_15, w_2, w_3, w_7, w_8, w_9, w_10, w_11, w_12, w_13, w_14, rfl⟩
     have w_yZ := And.intro (zf (x := nxn) (b := nxk) (n := 12) (by omega) (by omega)) (And.intro (zf (x := nxn) (b := nxi) (n := 24) (by omega) (by omega)) (zf0 (x := nxn) (n := 2) (by omega)))
     by_cases hn : n < A.length
     ·have hn1 : n < (A.map Prod.fst).length := by simpa using hn
      have hn2 : n < (A.map Prod.snd).length := by simpa using hn
      obtain ⟨kl, csl, hxe, hkl1, hkl2, hkl3, hkl4, hkl5, hkl6⟩ := b_1.strAt (j := n) hn1
      obtain ⟨kt, cst, hye, hkt1, hkt2, hkt3, hkt4, hkt5, hkt6⟩ := zvn b_2 (j := n) hn2
      have e1 : (A.map Prod.fst)[n] = A[n].1 := by simp
      have e2 : (A.map Prod.snd)[n] = A[n].2 := by simp
      rw [e1] at hkl6
      simp only [e2] at hkt6
      have hne1 : ∀ a, (nxk + a = kl) = False := fun a => by have := hkl1.2.1; simp; omega
      have hne2 : ∀ a, (nxk + a = kt) = False := fun a => by have := hkt1.2.1; simp; omega
      have hAn := hAL _ (List.getElem_mem hn)
      have hE := fun st => z8w hAn.tok hUL.tok hAn.small.1 hAn.small.2 st
      simp only [TreeT.d] at hE
      by_cases hv : A[n].1 = c.head[i].vars[k]
      ·by_cases he : A[n].2 = g.args[i]
       ·have he' := eq_true he
        simp only [hn, hl1, z1d hk, hkl2, hkl4, hkl5, hkl6, hne1, hkt2, hkt4, hkt5, hkt6, hne2, hv, hE, he', z02 hn (by omega), w_len, w_15, w_7, w_8, w_10, w_13, w_14, w_bc2, w_bN, ↓LA, LB, simprocAttr]
        exact z08 (by refine ⟨_, by omega, n + 1, _, rfl, by omega, fun q h h' hq => if e : q = n then (by subst e; exact he) else m_1 q h (by omega) hq, by omega, ?_, ?_, ?_, ?_, ?_, ?_, ?_, ?_, ?_, ?_, ?_, ?_, rfl⟩ <;> simp only [w_len, w_2, w_3, w_7, w_8, w_9, w_10, w_11, w_12, w_13, w_14, LB, simprocAttr])
       ·have hno : ¬ fitS c g := fun h => he (h.2.2 _ (hsub _ (List.getElem_mem hn)) _ hmem hv)
        have hS : zcf c g = [.sl [], .sl [], .bool false] := if_neg hno
        simp only [hn, hl1, z1d hk, hkl2, hkl4, hkl5, hkl6, hne1, hkt2, hkt4, hkt5, hkt6, hne2, hv, hE, he, w_len, w_15, w_7, w_8, w_10, w_13, w_14, w_bc2, w_bN, ↓LA, LB, simprocAttr]
        exact rql3 (hxn _) (hxn _) z3y hS.symm
      ·simp only [hn, hl1, z1d hk, hkl2, hkl4, hkl5, hkl6, hne1, hv, z02 hn (by omega), w_len, w_15, w_7, w_10, w_13, w_bc2, w_bN, ↓LA, LB, simprocAttr]
       exact z08 (by refine ⟨_, by omega, n + 1, _, rfl, by omega, fun q h h' hq => if e : q = n then absurd (by subst e; exact hq) hv else m_1 q h (by omega) hq, by omega, ?_, ?_, ?_, ?_, ?_, ?_, ?_, ?_, ?_, ?_, ?_, ?_, rfl⟩ <;> simp only [w_len, w_2, w_3, w_7, w_8, w_9, w_10, w_11, w_12, w_13, w_14, LB, simprocAttr])
     ·have hcs : z80 (A ++ [(c.head[i].vars[k], g.args[i])]) := z64 b_3 (fun x hx e => by obtain ⟨q, hq, rfl⟩ := List.mem_iff_getElem.1 hx; exact m_1 q hq (by omega) e)
      simp only [hn, hl1, z1d hk, w_len, w_15, w_7, w_10, w_13, w_bc2, w_bN, ↓LA, LB, simprocAttr]
      refine zat b_1 ?_ (z0h fun a => z7d) z01 ?_ ?_ ?_ ?_ ?_ fun chcv hcv => ?_
      ·intro j hj; obtain ⟨h1, h2, h3⟩ := hj; simp (disch := omega) only [z00]
      ·rfl
      ·omega
      ·simp; omega
      ·simp; omega
      ·exact rfl
      simp only [List.length_map, w_len, w_8, w_14, w_yZ, w_b_1V, ↓LA, LB, simprocAttr]
      refine zat b_2 ?_ (z0h fun a => z1k) z01 ?_ ?_ ?_ ?_ ?_ fun chcb hcb => ?_
      ·intro j hj; obtain ⟨h1, h2, h3⟩ := hj; simp (disch := omega) only [z00, z0d h3.2]
      ·rfl
      ·omega
      ·simp; omega
      ·simp; omega
      ·exact rfl
      simp only [z02 hk (by omega), List.length_map, w_len, w_13, ↓LA, LB, simprocAttr]
      exact z08 (by refine ⟨_, by omega, k + 1, _, _, _, .arr (nxn + 11) 1 false 0 (A.length + 1), .arr (nxn + 16) 2 true 0 (A.length + 1), rfl, by omega, za3 [D.str c.head[i].vars[k]] (ys := [.d (.str c.head[i].vars[k])]) hcv (by exact ⟨by omega, by omega, by omega, fun h => h rfl⟩) (by simp (disch := omega) only [z00, z01, z0d (b_2.away (j := nxn + 11) (by omega))]) (by simp) (by rw [hbs, List.map_append, List.map_append]; rfl) (by exact ⟨CQ.str, trivial⟩), za3 [(g.args[i]).d] (ys := [.d (.sl ((g.args[i]).nodes.map NodeT.d)), .d (.int .i64 (g.args[i]).root)]) hcb (by exact ⟨by omega, by omega, by omega, by show nxn + 11 ≠ nxn + 16; omega⟩) z01 (by simp) (by rw [hbs, List.map_append, List.map_append]; rfl) (by exact ⟨CQ.data, CQ.int, trivial⟩), (by rw [hbs]; exact hcs), ?_, ?_, ?_, ?_, ?_, (by omega), Nat.zero_le _, ?_, ?_, ?_, ?_, ?_, ?_, ?_, ?_, ?_, ?_, rfl⟩ <;> simp only [w_len, w_2, w_3, w_9, w_10, w_11, w_12, w_yZ, w_bc0, w_bc1, w_bc2, w_bc3, w_bc4, w_bN, w_b_1V, w_b_2V, LB, simprocAttr])
    ·have hke : k = (hd c i).vars.length := by rw [hhd]; omega
     rw [hke, z69] at b_1 b_2 b_3
     simp only [hk, z02 hi (by omega), List.length_map, w_len, w_13, w_9, w_10, w_bc2, ↓LA, LB, simprocAttr]
     exact z08 (by refine ⟨_, by omega, i + 1, _, _, _, xw, xd, rfl, by omega, b_1.mono (fun q hq => ⟨hq.1, by have := hq.2.1; omega, hq.2.2.2⟩), b_2.mono (fun q hq => ⟨hq.1, by have := hq.2.1; omega, hq.2.2.2⟩), b_3, fun q hq => if h : q = i then (by rw [h]; exact hfp) else a_4 q (by omega), ?_, ?_, (by omega), Nat.zero_le _, ?_, ?_, ?_, ?_, ?_, ?_, rfl⟩ <;> simp only [w_len, w_2, w_3, w_7, w_8, w_bc0, w_bc1, LB, simprocAttr])
   ·by_cases hx : g.args[i].nodes[0].name = c.head[i].name
    ·by_cases hkn : g.args[i].nodes[0].kids.length = c.head[i].vars.length
     ·have hfp : fitP (hd c i) (ar g i) := .inr (by rw [hhd, har, hnd0]; exact ⟨hx, hkn⟩)
      simp only [hi, z0t hi, z19 hig, hn0, hnm, hx, ceq hkn, List.length_map, w_len, w_9, w_2, w_3, w_ac0, w_ac1, w_aN, ↓LA, LB, simprocAttr]
      refine z09 (fun e0 s0 m env st => ∃ (k nxk lwk : Nat) (sk : List (Nat × Obj)) (xw xd : V), m = c.head[i].vars.length - k ∧ (k ≤ c.head[i].vars.length) ∧ (GP sk false (fun q => 2 ≤ q ∧ q < nxk ∧ (q < nxi ∨ nxi + 24 ≤ q) ∧ ¬ away xw q) 0 1 false xw (((bndA c g i k).map Prod.fst).map D.str)) ∧ (GP sk false (fun q => 2 ≤ q ∧ q < nxk ∧ (q < nxi ∨ nxi + 24 ≤ q) ∧ away xw q) 0 2 true xd (((bndA c g i k).map Prod.snd).map TreeT.d)) ∧ (z80 (bndA c g i k)) ∧ sget sk (0) = some (.cells [.d (.str g.rel), .d (.sl (c.head.map PatT.d)), .d (.sl (c.body.map PatT.d))]) ∧ sget sk (1) = some (.cells [.d (.str g.rel), .d (.sl (g.args.map TreeT.d))]) ∧ sget sk (nxi + 15) = some (.cells [.d (.str c.head[i].name), .d (.sl (c.head[i].vars.map D.str))]) ∧ sget sk (nxi + 16) = some (.cells [.d (.sl (g.args[i].nodes.map NodeT.d)), .d (.int .i64 g.args[i].root)]) ∧ sget sk (nxi + 23) = some (.cells [.d (.str c.head[i].name), .d (.sl (g.args[i].nodes[0].kids.map (D.int .i64)))]) ∧ nxi + 24 ≤ nxk ∧ 0 ≤ lwk ∧ env.length = 118 ∧ env.getD 13 .undef = .d (.int .i64 k) ∧ env.getD 2 .undef = .ptr 0 0 ∧ env.getD 3 .undef = .ptr 1 0 ∧ env.getD 7 .undef = xw ∧ env.getD 8 .undef = xd ∧ env.getD 9 .undef = .d (.int .i64 i) ∧ env.getD 10 .undef = .ptr (nxi + 15) 0 ∧ env.getD 11 .undef = .ptr (nxi + 16) 0 ∧ env.getD 12 .undef = .ptr (nxi + 23) 0 ∧ st = { s := sk, next := nxk, low := lwk }) ?_ (c.head[i].vars.length) (by refine ⟨0, _, _, _, xv, xb, rfl, by omega, (by rw [z2x]; exact (a_1.frame (by intro q hq; obtain ⟨h1, h2, h3⟩ := hq; simp (disch := omega) only [z00])).mono (fun q hq => ⟨hq.1, by have := hq.2.1; omega, .inl hq.2.1, hq.2.2⟩)), (by rw [z2x]; exact (a_2.frame (by intro q hq; obtain ⟨h1, h2, h3⟩ := hq; simp (disch := omega) only [z00])).mono (fun q hq => ⟨hq.1, by have := hq.2.1; omega, .inl hq.2.1, hq.2.2⟩)), (by rw [z2x]; exact a_3), ?_, ?_, ?_, ?_, ?_, (by omega), Nat.zero_le _, ?_, ?_, ?_, ?_, ?_, ?_, ?_, ?_, ?_, ?_, rfl⟩ <;> simp only [w_len, w_9, w_2, w_3, w_7, w_8, w_ac0, w_ac1, w_aN, LB, simprocAttr])
      rintro m env st ⟨k, nxk, lwk, sk, xw, xd, hm, b_0, b_1, b_2, b_3, w_bc0, w_bc1, w_bc2, w_bc3, w_bc4, w_bb, w_blo, w_len, w_13, w_2, w_3, w_7, w_8, w_9, w_10, w_11, w_12, rfl⟩
      have w_bN := And.intro (cf1 (x := nxk) (a := 0) (by omega)) (And.intro (cf1 (x := nxk) (a := 1) (by omega)) (And.intro (cf1 (x := nxk) (a := nxi + 15) (by omega)) (And.intro (cf1 (x := nxk) (a := nxi + 16) (by omega)) (cf1 (x := nxk) (a := nxi + 23) (by omega)))))
      have w_bS := And.intro (cf2 (x := nxk) (by omega) w_bc0) (And.intro (cf2 (x := nxk) (by omega) w_bc1) (And.intro (cf2 (x := nxk) (by omega) w_bc2) (And.intro (cf2 (x := nxk) (by omega) w_bc3) (cf2 (x := nxk) (by omega) w_bc4))))
      have w_bZ := And.intro (zf (x := nxk) (b := nxi) (n := 24) (by omega) (by omega)) (zf0 (x := nxk) (n := 2) (by omega))
      have w_b_1V := And.intro (b_1.away (j := 0) (by omega)) (And.intro (b_1.away (j := 1) (by omega)) (And.intro (b_1.away (j := nxi + 15) (by omega)) (And.intro (b_1.away (j := nxi + 16) (by omega)) (And.intro (b_1.away (j := nxi + 23) (by omega)) (b_1.away (j := nxk + 6) (by omega))))))
      have w_b_1c := b_1.cell.1
      have w_b_1d := b_1.cell.2
      have w_b_1e := b_1.beq
      have w_b_2V := And.intro (b_2.away (j := 0) (by omega)) (And.intro (b_2.away (j := 1) (by omega)) (And.intro (b_2.away (j := nxi + 15) (by omega)) (And.intro (b_2.away (j := nxi + 16) (by omega)) (And.intro (b_2.away (j := nxi + 23) (by omega)) (b_2.away (j := nxk + 6) (by omega))))))
      have w_b_2c := b_2.cell.1
      have w_b_2d := b_2.cell.2
      have w_b_2e := b_2.beq
      by_cases hk : k < c.head[i].vars.length
      ·have hAl := zl3 (c := c) (g := g) (i := i) (k := k) (m := 4) (by omega) (fun q hq => by rw [zgf (by omega : q < c.head.length)]; exact hcv _ (List.getElem_mem _))
       have hAL := zeg (c := c) (g := g) (i := i) (k := k) hg (fun q hq => by omega) (fun q hq => if h : q = i then (by rw [h]; exact hfp) else a_4 q (by omega)) (by rw [hhd]; omega)
       have hUL := zi6 (c := c) (k := k) hg hig hfp (by rw [hhd]; exact hk)
       have hsv : (subE c g i k).1 = c.head[i].vars[k] := by show (hd c i).vars.getD k [] = _; rw [hhd]; simp [hk]
       have hmem := z9o (c := c) (g := g) (i := i) (k := k) (n := c.head.length) hi (by rw [hhd]; exact hk)
       have hsub : ∀ x ∈ bndA c g i k, x ∈ bndN c g c.head.length := fun x hx => za8 hi (by rw [hhd]; omega) hx
       obtain ⟨U, hU⟩ : ∃ U, U = (subE c g i k).2 := ⟨_, rfl⟩
       have hUe : U = subT g.args[i] (kid g.args[i].nodes 0 k) := by rw [hU]; show subP (hd c i) (ar g i) k = _; unfold subP; rw [hhd, har, if_neg hnm]
       have hk2 : k < g.args[i].nodes[0].kids.length := by omega
       obtain ⟨hke, hkl⟩ := hgd.at_ hpos hk2
       have hF := fun st => zqs hgd hkl st
       rw [ht.from hkl, ← hUe] at hF
       simp only [TreeT.d] at hF
       rw [← hU] at hUL
       have hbs := z85 (c := c) (g := g) (i := i) (k := k)
       have hse : subE c g i k = (c.head[i].vars[k], U) := by rw [← hsv, hU]
       rw [hse] at hbs hmem
       obtain ⟨A, hA⟩ : ∃ A, A = bndA c g i k := ⟨_, rfl⟩
       rw [← hA] at b_1 b_2 b_3 hAl hAL hsub hbs
       have hl1 := b_1.len
       simp only [List.length_map] at hl1
       simp only [hk, hnm, z1a hk2, hke, hF, List.length_map, w_len, w_13, w_10, w_11, w_12, w_bc2, w_bc3, w_bc4, w_bN, ↓LA, LB, simprocAttr]
       refine z09 (fun e0 s0 m env st => ∃ (n nxn : Nat), m = A.length - n ∧ (n ≤ A.length) ∧ (∀ q (h : q < A.length), q < n → A[q].1 = c.head[i].vars[k] → A[q].2 = U) ∧ (nxk + 12 ≤ nxn) ∧ env.length = 118 ∧ env.getD 15 .undef = .d (.int .i64 n) ∧ env.getD 2 .undef = .ptr 0 0 ∧ env.getD 3 .undef = .ptr 1 0 ∧ env.getD 7 .undef = xw ∧ env.getD 8 .undef = xd ∧ env.getD 9 .undef = .d (.int .i64 i) ∧ env.getD 10 .undef = .ptr (nxi + 15) 0 ∧ env.getD 11 .undef = .ptr (nxi + 16) 0 ∧ env.getD 12 .undef = .ptr (nxi + 23) 0 ∧ env.getD 13 .undef = .d (.int .i64 k) ∧ env.getD 14 .undef = .ptr (nxk + 6) 0 ∧ st = { s := s0.s, next := nxn, low := s0.low }) ?_ (A.length) (by refine ⟨0, _, rfl, by omega, fun q h h' => by omega, by omega, ?_, ?_, ?_, ?_, ?_, ?_, ?_, ?_, ?_, ?_, ?_, ?_, rfl⟩ <;> simp only [w_len, w_13, w_2, w_3, w_7, w_8, w_9, w_10, w_11, w_12, LB, simprocAttr])
       rintro m env st ⟨n, nxn, hm, m_0, m_1, m_2, w_len, w_15, w_2, w_3, w_7, w_8, w_9, w_10, w_11, w_12, w_13, w_14, rfl⟩
       have w_yZ := And.intro (zf (x := nxn) (b := nxk) (n := 12) (by omega) (by omega)) (And.intro (zf (x := nxn) (b := nxi) (n := 24) (by omega) (by omega)) (zf0 (x := nxn) (n := 2) (by omega)))
       by_cases hn : n < A.length
       ·have hn1 : n < (A.map Prod.fst).length := by simpa using hn
        have hn2 : n < (A.map Prod.snd).length := by simpa using hn
        obtain ⟨kl, csl, hxe, hkl1, hkl2, hkl3, hkl4, hkl5, hkl6⟩ := b_1.strAt (j := n) hn1
        obtain ⟨kt, cst, hye, hkt1, hkt2, hkt3, hkt4, hkt5, hkt6⟩ := zvn b_2 (j := n) hn2
        have e1 : (A.map Prod.fst)[n] = A[n].1 := by simp
        have e2 : (A.map Prod.snd)[n] = A[n].2 := by simp
        rw [e1] at hkl6
        simp only [e2] at hkt6
        have hne1 : ∀ a, (nxk + a = kl) = False := fun a => by have := hkl1.2.1; simp; omega
        have hne2 : ∀ a, (nxk + a = kt) = False := fun a => by have := hkt1.2.1; simp; omega
        have hAn := hAL _ (List.getElem_mem hn)
        have hE := fun st => z8w hAn.tok hUL.tok hAn.small.1 hAn.small.2 st
        simp only [TreeT.d] at hE
        by_cases hv : A[n].1 = c.head[i].vars[k]
        ·by_cases he : A[n].2 = U
         ·have he' := eq_true he
          simp only [hn, hl1, z1d hk, hkl2, hkl4, hkl5, hkl6, hne1, hkt2, hkt4, hkt5, hkt6, hne2, hv, hE, he', z02 hn (by omega), w_len, w_15, w_7, w_8, w_10, w_13, w_14, w_bc2, w_bN, ↓LA, LB, simprocAttr]
          exact z08 (by refine ⟨_, by omega, n + 1, _, rfl, by omega, fun q h h' hq => if e : q = n then (by subst e; exact he) else m_1 q h (by omega) hq, by omega, ?_, ?_, ?_, ?_, ?_, ?_, ?_, ?_, ?_, ?_, ?_, ?_, rfl⟩ <;> simp only [w_len, w_2, w_3, w_7, w_8, w_9, w_10, w_11, w_12, w_13, w_14, LB, simprocAttr])
         ·have hno : ¬ fitS c g := fun h => he (h.2.2 _ (hsub _ (List.getElem_mem hn)) _ hmem hv)
          have hS : zcf c g = [.sl [], .sl [], .bool false] := if_neg hno
          simp only [hn, hl1, z1d hk, hkl2, hkl4, hkl5, hkl6, hne1, hkt2, hkt4, hkt5, hkt6, hne2, hv, hE, he, w_len, w_15, w_7, w_8, w_10, w_13, w_14, w_bc2, w_bN, ↓LA, LB, simprocAttr]
          exact rql3 (hxn _) (hxn _) z3y hS.symm
        ·simp only [hn, hl1, z1d hk, hkl2, hkl4, hkl5, hkl6, hne1, hv, z02 hn (by omega), w_len, w_15, w_7, w_10, w_13, w_bc2, w_bN, ↓LA, LB, simprocAttr]
         exact z08 (by refine ⟨_, by omega, n + 1, _, rfl, by omega, fun q h h' hq => if e : q = n then absurd (by subst e; exact hq) hv else m_1 q h (by omega) hq, by omega, ?_, ?_, ?_, ?_, ?_, ?_, ?_, ?_, ?_, ?_, ?_, ?_, rfl⟩ <;> simp only [w_len, w_2, w_3, w_7, w_8, w_9, w_10, w_11, w_12, w_13, w_14, LB, simprocAttr])
       ·have hcs : z80 (A ++ [(c.head[i].vars[k], U)]) := z64 b_3 (fun x hx e => by obtain ⟨q, hq, rfl⟩ := List.mem_iff_getElem.1 hx; exact m_1 q hq (by omega) e)
        simp only [hn, hl1, z1d hk, w_len, w_15, w_7, w_10, w_13, w_bc2, w_bN, ↓LA, LB, simprocAttr]
        refine zat b_1 ?_ (z0h fun a => z7d) z01 ?_ ?_ ?_ ?_ ?_ fun chcv hcv => ?_
        ·intro j hj; obtain ⟨h1, h2, h3⟩ := hj; simp (disch := omega) only [z00]
        ·rfl
        ·omega
        ·simp; omega
        ·simp; omega
        ·exact rfl
        simp only [List.length_map, w_len, w_8, w_14, w_yZ, w_b_1V, ↓LA, LB, simprocAttr]
        refine zat b_2 ?_ (z0h fun a => z1k) z01 ?_ ?_ ?_ ?_ ?_ fun chcb hcb => ?_
        ·intro j hj; obtain ⟨h1, h2, h3⟩ := hj; simp (disch := omega) only [z00, z0d h3.2]
        ·rfl
        ·omega
        ·simp; omega
        ·simp; omega
        ·exact rfl
        simp only [z02 hk (by omega), List.length_map, w_len, w_13, ↓LA, LB, simprocAttr]
        exact z08 (by refine ⟨_, by omega, k + 1, _, _, _, .arr (nxn + 11) 1 false 0 (A.length + 1), .arr (nxn + 16) 2 true 0 (A.length + 1), rfl, by omega, za3 [D.str c.head[i].vars[k]] (ys := [.d (.str c.head[i].vars[k])]) hcv (by exact ⟨by omega, by omega, by omega, fun h => h rfl⟩) (by simp (disch := omega) only [z00, z01, z0d (b_2.away (j := nxn + 11) (by omega))]) (by simp) (by rw [hbs, List.map_append, List.map_append]; rfl) (by exact ⟨CQ.str, trivial⟩), za3 [(U).d] (ys := [.d (.sl ((U).nodes.map NodeT.d)), .d (.int .i64 (U).root)]) hcb (by exact ⟨by omega, by omega, by omega, by show nxn + 11 ≠ nxn + 16; omega⟩) z01 (by simp) (by rw [hbs, List.map_append, List.map_append]; rfl) (by exact ⟨CQ.data, CQ.int, trivial⟩), (by rw [hbs]; exact hcs), ?_, ?_, ?_, ?_, ?_, (by omega), Nat.zero_le _, ?_, ?_, ?_, ?_, ?_, ?_, ?_, ?_, ?_, ?_, rfl⟩ <;> simp only [w_len, w_2, w_3, w_9, w_10, w_11, w_12, w_yZ, w_bc0, w_bc1, w_bc2, w_bc3, w_bc4, w_bN, w_b_1V, w_b_2V, LB, simprocAttr])
      ·have hke : k = (hd c i).vars.length := by rw [hhd]; omega
       rw [hke, z69] at b_1 b_2 b_3
       simp only [hk, z02 hi (by omega), List.length_map, w_len, w_13, w_9, w_10, w_bc2, ↓LA, LB, simprocAttr]
       exact z08 (by refine ⟨_, by omega, i + 1, _, _, _, xw, xd, rfl, by omega, b_1.mono (fun q hq => ⟨hq.1, by have := hq.2.1; omega, hq.2.2.2⟩), b_2.mono (fun q hq => ⟨hq.1, by have := hq.2.1; omega, hq.2.2.2⟩), b_3, fun q hq => if h : q = i then (by rw [h]; exact hfp) else a_4 q (by omega), ?_, ?_, (by omega), Nat.zero_le _, ?_, ?_, ?_, ?_, ?_, ?_, rfl⟩ <;> simp only [w_len, w_2, w_3, w_7, w_8, w_bc0, w_bc1, LB, simprocAttr])
     ·have hno : ¬ fitS c g := fun h => by
       have := (h.2.1 i hi).resolve_left (by rw [hhd]; exact hnm)
       rw [hhd, har, hnd0] at this
       exact hkn this.2
      have hS : zcf c g = [.sl [], .sl [], .bool false] := if_neg hno
      simp only [hi, z0t hi, z19 hig, hn0, hnm, hx, cne hkn, List.length_map, w_len, w_9, w_2, w_3, w_ac0, w_ac1, w_aN, ↓LA, LB, simprocAttr]
      exact rql3 (hxn _) (hxn _) z3y hS.symm
    ·have hno : ¬ fitS c g := fun h => by
      have := (h.2.1 i hi).resolve_left (by rw [hhd]; exact hnm)
      rw [hhd, har, hnd0] at this
      exact hx this.1
     have hS : zcf c g = [.sl [], .sl [], .bool false] := if_neg hno
     simp only [hi, z0t hi, z19 hig, hn0, hnm, hx, List.length_map, w_len, w_9, w_2, w_3, w_ac0, w_ac1, w_aN, ↓LA, LB, simprocAttr]
     exact rql3 (hxn _) (hxn _) z3y hS.symm
  ·have hie : i = c.head.length := by omega
   subst hie
   have hS : zcf c g = _ := if_pos ⟨hrel, a_4, a_3⟩
   simp only [hi, List.length_map, w_len, w_9, w_2, w_7, w_8, w_ac0, ↓LA, LB, simprocAttr]
   exact rql3 (CQ.snap (b := 0) (S := fun _ => True) (fun _ _ => Nat.zero_le _) (n := 1) (m := 12) (by decide) ((a_1.cv (by omega) (z0h fun a => z7d)).mono fun _ _ => trivial)) (CQ.snap (b := 0) (S := fun _ => True) (fun _ _ => Nat.zero_le _) (n := 1) (m := 12) (by decide) ((a_2.cv (by omega) (z0h fun a => z1k)).mono fun _ _ => trivial)) z3y hS.symm
 ·have hno : ¬ fitS c g := fun h => hrel h.1
  have hS : zcf c g = [.sl [], .sl [], .bool false] := if_neg hno
  simp only [T1.i47, ClauseT.d, GoalT.d, hrel, w_len, w_0, w_1, ↓LA, LB, simprocAttr]
  exact rql3 (hxn _) (hxn _) z3y hS.symm
end Go.Lift.K
namespace Go.Lift.K
open Go Go.Lift Classical
set_option maxRecDepth 100000
noncomputable def look (A : List (List Nat × TreeT)) (v : List Nat) : TreeT := match A.find? (fun x => decide (x.1 = v)) with
 | some x => x.2
 | none => ⟨[], 0⟩
noncomputable def z88 (A : List (List Nat × TreeT)) (p : PatT) : GoalT := ⟨p.name, p.vars.map (look A)⟩
noncomputable def z87 (c : ClauseT) (g : GoalT) : List GoalT := c.body.map (z88 (bndN c g c.head.length))
theorem zy7 {A : List (List Nat × TreeT)} {v : List Nat} {n : Nat} (hn : n < A.length) (h : A[n].1 = v) (hb : ∀ q (h : q < A.length), q < n → A[q].1 ≠ v) : look A v = A[n].2 := by
 have : A.find? (fun x => decide (x.1 = v)) = some A[n] := by
  rw [List.find?_eq_some_iff_getElem]
  refine ⟨by simpa using h, n, hn, rfl, fun j hj => ?_⟩
  have := hb j (by omega) hj
  simpa using this
 unfold look
 rw [this]
def zx5 (s0 : List (Nat × Obj)) (n0 : Nat) (c : ClauseT) (g : GoalT) (v : V) (st : St) : Prop :=
 n0 ≤ st.next ∧ (∀ q, q < n0 → sget st.s q = sget s0 q) ∧ ((fitS c g ∧ ∃ a, v = .tup [a, .d (.bool true)] ∧ GP st.s false (Iv n0 st.next) 1 2 true a ((z87 c g).map GoalT.d)) ∨ (¬ fitS c g ∧ v = .tup [.nilS, .d (.bool false)]))
set_option maxHeartbeats 8000000 in
theorem zmz {c : ClauseT} {g : GoalT} (hg : Lg g) (hgk : g.args.length ≤ 1000) (hch : c.head.length ≤ 1000) (hch2 : c.rel = g.rel → c.head.length = g.args.length) (hcv : ∀ p ∈ c.head, p.vars.length ≤ 4)
  (hb : c.body.length ≤ 1000) (hbv : ∀ p ∈ c.body, p.vars.length ≤ 1000) (hth : ∀ p ∈ c.body, ∀ v ∈ p.vars, ∃ x ∈ bndN c g c.head.length, x.1 = v) {s : List (Nat × Obj)} {n0 lw : Nat} :
  PostV (z05 G (.fn 10 [] []) [.d c.d, .d g.d] { s := s, next := n0, low := lw }) (zx5 s n0 c g) := by
 have hF := fun st => zqx hg hgk hch hch2 hcv st
 have hx0 : ∀ a b c : V, [a, b, c][0]? = some a := fun _ _ _ => rfl
 have hx1 : ∀ a b c : V, [a, b, c][1]? = some b := fun _ _ _ => rfl
 have hx2 : ∀ a b c : V, [a, b, c][2]? = some c := fun _ _ _ => rfl
 simp only [ClauseT.d, GoalT.d] at hF
 refine z73 (first := []) (args := [.d c.d, .d g.d]) (cap := []) T1.g10 rfl rfl rfl (fun e w_len harg => ?_)
 have w_len : e.length = 78 := w_len
 have w_0 : e.getD 0 .undef = .d c.d := harg 0 (by simp)
 have w_1 : e.getD 1 .undef = .d g.d := harg 1 (by simp)
 clear harg
 by_cases hfit : fitS c g
 ·have hS : zcf c g = _ := if_pos hfit
  rw [hS] at hF
  have hAl := zl2 (c := c) (g := g) (n := c.head.length) (m := 4) (fun i hi => by rw [zgf hi]; exact hcv _ (List.getElem_mem _))
  unfold zx5 z87
  obtain ⟨A, hA⟩ : ∃ A, A = bndN c g c.head.length := ⟨_, rfl⟩
  rw [← hA] at hF hth hAl ⊢
  simp only [List.map_cons, List.map_nil, tupV] at hF
  simp only [T1.i10, ClauseT.d, GoalT.d, hF, hx0, hx1, hx2, w_len, w_0, w_1, ↓LA, LB, simprocAttr]
  refine z09 (fun e0 s0 m env st => ∃ (i nxi lwi : Nat) (si : List (Nat × Obj)) (xo : V), m = c.body.length - i ∧ (i ≤ c.body.length) ∧ (Gr si false (n0 + 2) 1 nxi 2 true xo (((c.body.take i).map (z88 A)).map GoalT.d)) ∧ (∀ q, q < n0 → sget si q = sget s q) ∧ sget si (n0) = some (.cells [.d (.str c.rel), .d (.sl (c.head.map PatT.d)), .d (.sl (c.body.map PatT.d))]) ∧ sget si (n0 + 1) = some (.cells [.d (.str g.rel), .d (.sl (g.args.map TreeT.d))]) ∧ n0 + 18 ≤ nxi ∧ 0 ≤ lwi ∧ env.length = 78 ∧ env.getD 10 .undef = .d (.int .i64 i) ∧ env.getD 2 .undef = .ptr n0 0 ∧ env.getD 3 .undef = .ptr (n0 + 1) 0 ∧ env.getD 6 .undef = .d (.sl ((A.map Prod.fst).map D.str)) ∧ env.getD 7 .undef = .d (.sl ((A.map Prod.snd).map TreeT.d)) ∧ env.getD 9 .undef = xo ∧ st = { s := si, next := nxi, low := lwi }) ?_ (c.body.length) (by refine ⟨0, _, _, _, .nilS, rfl, by omega, Gr.nil, (by intro q hq; simp (disch := omega) only [z00]), ?_, ?_, (by omega), Nat.zero_le _, ?_, ?_, ?_, ?_, ?_, ?_, ?_, rfl⟩ <;> simp only [w_len, LB, simprocAttr])
  rintro m env st ⟨i, nxi, lwi, si, xo, hm, a_0, a_1, a_2, w_ac0, w_ac1, w_ab, w_alo, w_len, w_10, w_2, w_3, w_6, w_7, w_9, rfl⟩
  have w_aN := And.intro (cf1 (x := nxi) (a := n0) (by omega)) (cf1 (x := nxi) (a := n0 + 1) (by omega))
  have w_aS := And.intro (cf2 (x := nxi) (by omega) w_ac0) (cf2 (x := nxi) (by omega) w_ac1)
  have w_aZ := zf (x := nxi) (b := n0) (n := 18) (by omega) (by omega)
  have w_a_1V := And.intro (a_1.away (j := n0) (by omega)) (a_1.away (j := n0 + 1) (by omega))
  have w_a_1c := a_1.cell.1
  have w_a_1d := a_1.cell.2
  have w_a_1e := a_1.beq
  by_cases hi : i < c.body.length
  ·have hpv := hbv _ (List.getElem_mem hi)
   simp only [hi, z0t hi, List.length_map, w_len, w_10, w_2, w_ac0, ↓LA, LB, simprocAttr]
   refine z09 (fun e0 s0 m env st => ∃ (k nxk lwk : Nat) (sk : List (Nat × Obj)) (xa : V), m = c.body[i].vars.length - k ∧ (k ≤ c.body[i].vars.length) ∧ (Gr sk false (nxi + 15) 0 nxk 2 true xa (((c.body[i].vars.take k).map (look A)).map TreeT.d)) ∧ (Gr sk false (n0 + 2) 1 nxi 2 true xo (((c.body.take i).map (z88 A)).map GoalT.d)) ∧ (∀ q, q < n0 → sget sk q = sget s q) ∧ sget sk (n0) = some (.cells [.d (.str c.rel), .d (.sl (c.head.map PatT.d)), .d (.sl (c.body.map PatT.d))]) ∧ sget sk (n0 + 1) = some (.cells [.d (.str g.rel), .d (.sl (g.args.map TreeT.d))]) ∧ sget sk (nxi + 12) = some (.cells [.d (.str c.body[i].name), xa]) ∧ nxi + 15 ≤ nxk ∧ 0 ≤ lwk ∧ env.length = 78 ∧ env.getD 12 .undef = .d (.int .i64 k) ∧ env.getD 2 .undef = .ptr n0 0 ∧ env.getD 3 .undef = .ptr (n0 + 1) 0 ∧ env.getD 6 .undef = .d (.sl ((A.map Prod.fst).map D.str)) ∧ env.getD 7 .undef = .d (.sl ((A.map Prod.snd).map TreeT.d)) ∧ env.getD 9 .undef = xo ∧ env.getD 10 .undef = .d (.int .i64 i) ∧ env.getD 11 .undef = .ptr (nxi + 12) 0 ∧ st = { s := sk, next := nxk, low := lwk }) ?_ (c.body[i].vars.length) (by refine ⟨0, _, _, _, .nilS, rfl, by omega, Gr.nil, a_1.frame (by intro j h1 h2; simp (disch := omega) only [z00]), (by intro q hq; simp (disch := omega) only [z00]; exact a_2 q hq), ?_, ?_, ?_, (by omega), Nat.zero_le _, ?_, ?_, ?_, ?_, ?_, ?_, ?_, ?_, ?_, rfl⟩ <;> simp only [w_len, w_10, w_2, w_3, w_6, w_7, w_9, w_ac0, w_ac1, w_aN, LB, simprocAttr])
   rintro m env st ⟨k, nxk, lwk, sk, xa, hm, b_0, b_1, b_2, b_3, w_bc0, w_bc1, w_bc2, w_bb, w_blo, w_len, w_12, w_2, w_3, w_6, w_7, w_9, w_10, w_11, rfl⟩
   have w_bN := And.intro (cf1 (x := nxk) (a := n0) (by omega)) (And.intro (cf1 (x := nxk) (a := n0 + 1) (by omega)) (cf1 (x := nxk) (a := nxi + 12) (by omega)))
   have w_bS := And.intro (cf2 (x := nxk) (by omega) w_bc0) (And.intro (cf2 (x := nxk) (by omega) w_bc1) (cf2 (x := nxk) (by omega) w_bc2))
   have w_bZ := And.intro (zf (x := nxk) (b := nxi) (n := 15) (by omega) (by omega)) (zf (x := nxk) (b := n0) (n := 18) (by omega) (by omega))
   have w_b_1V := And.intro (b_1.away (j := n0) (by omega)) (And.intro (b_1.away (j := n0 + 1) (by omega)) (b_1.away (j := nxi + 12) (by omega)))
   have w_b_1c := b_1.cell.1
   have w_b_1d := b_1.cell.2
   have w_b_1e := b_1.beq
   have w_b_2V := And.intro (b_2.away (j := n0) (by omega)) (And.intro (b_2.away (j := n0 + 1) (by omega)) (b_2.away (j := nxi + 12) (by omega)))
   have w_b_2c := b_2.cell.1
   have w_b_2d := b_2.cell.2
   have w_b_2e := b_2.beq
   by_cases hk : k < c.body[i].vars.length
   ·simp only [hk, z0t hi, List.length_map, w_len, w_12, w_2, w_10, w_bc0, ↓LA, LB, simprocAttr]
    refine z09 (fun e0 s0 m env st => ∃ (n nxn : Nat), m = A.length - n ∧ (n ≤ A.length) ∧ ((∀ q (h : q < A.length), q < n → A[q].1 ≠ c.body[i].vars[k])) ∧ (nxk + 10 ≤ nxn) ∧ env.length = 78 ∧ env.getD 13 .undef = .d (.int .i64 n) ∧ env.getD 2 .undef = .ptr n0 0 ∧ env.getD 3 .undef = .ptr (n0 + 1) 0 ∧ env.getD 6 .undef = .d (.sl ((A.map Prod.fst).map D.str)) ∧ env.getD 7 .undef = .d (.sl ((A.map Prod.snd).map TreeT.d)) ∧ env.getD 9 .undef = xo ∧ env.getD 10 .undef = .d (.int .i64 i) ∧ env.getD 11 .undef = .ptr (nxi + 12) 0 ∧ env.getD 12 .undef = .d (.int .i64 k) ∧ st = { s := s0.s, next := nxn, low := s0.low }) ?_ (A.length) (by refine ⟨0, _, rfl, by omega, fun q h h' => by omega, by omega, ?_, ?_, ?_, ?_, ?_, ?_, ?_, ?_, ?_, ?_, rfl⟩ <;> simp only [w_len, w_12, w_2, w_3, w_6, w_7, w_9, w_10, w_11, LB, simprocAttr])
    rintro m env st ⟨n, nxn, hm, m_0, m_1, m_2, w_len, w_13, w_2, w_3, w_6, w_7, w_9, w_10, w_11, w_12, rfl⟩
    have w_yZ := And.intro (zf (x := nxn) (b := nxk) (n := 10) (by omega) (by omega)) (And.intro (zf (x := nxn) (b := nxi) (n := 15) (by omega) (by omega)) (zf (x := nxn) (b := n0) (n := 18) (by omega) (by omega)))
    have hnl : n < A.length := by
     obtain ⟨x, hx, hxv⟩ := hth _ (List.getElem_mem hi) _ (List.getElem_mem hk)
     obtain ⟨j, hj, rfl⟩ := List.mem_iff_getElem.1 hx
     apply Classical.byContradiction
     intro hno
     exact m_1 j hj (by omega) hxv
    have hn1 : n < (A.map Prod.fst).length := by simpa using hnl
    have hn2 : n < (A.map Prod.snd).length := by simpa using hnl
    have e1 : (A.map Prod.fst)[n] = A[n].1 := by simp
    have e2 : (A.map Prod.snd)[n] = A[n].2 := by simp
    by_cases hv : A[n].1 = c.body[i].vars[k]
    ·have hlk := zy7 hnl hv m_1
     simp only [z0t hi, z1d hk, z1d hn1, z19 hn2, e1, e2, hv, w_len, w_13, w_2, w_6, w_7, w_10, w_11, w_12, w_yZ, w_bc0, w_bc2, w_b_1e, ↓LA, LB, simprocAttr]
     refine z3z b_1 ?_ (z0h fun a => z1k) z01 ?_ ?_ ?_ ?_ ?_ fun chc0 hc0 => ?_
     ·intro j h1 h2; simp (disch := omega) only [z00]
     ·rfl
     ·omega
     ·simp; omega
     ·simp; omega
     ·exact rfl
     simp only [z02 hk (by omega), w_len, w_11, w_12, w_yZ, w_bc2, w_b_1V, ↓LA, LB, simprocAttr]
     have hn3 : (((c.body[i].vars.take (k + 1)).map (look A)).map TreeT.d) = (((c.body[i].vars.take k).map (look A)).map TreeT.d) ++ [A[n].2.d] := by rw [z16 hk, List.map_append, List.map_append, ← hlk]; rfl
     exact z08 (by refine ⟨_, by omega, k + 1, _, _, _, .arr (nxn + 21) 2 true 0 ((((c.body[i].vars.take k).map (look A)).map TreeT.d).length + 1), rfl, by omega, (by rw [hn3]; exact z34 hc0 (by intro j h1 h2 h3; simp (disch := omega) only [z00, z04, z0d h3]) (by omega) (by omega) (by omega) z01 rfl ⟨CV.data, CV.int, trivial⟩), b_2.frame (by intro j h1 h2; simp (disch := omega) only [z00, z04, z0d (b_1.away (j := j) (by omega))]), (by intro q hq; simp (disch := omega) only [z00, z04, z0d (b_1.away (j := q) (by omega))]; exact b_3 q hq), ?_, ?_, ?_, (by omega), Nat.zero_le _, ?_, ?_, ?_, ?_, ?_, ?_, ?_, ?_, ?_, rfl⟩ <;> simp only [w_len, w_2, w_3, w_6, w_7, w_9, w_10, w_11, w_yZ, w_bc0, w_bc1, w_bc2, w_aN, w_b_1V, LB, simprocAttr])
    ·simp only [z0t hi, z1d hk, z1d hn1, e1, hv, z02 hnl (by omega), w_len, w_13, w_2, w_6, w_10, w_12, w_bc0, ↓LA, LB, simprocAttr]
     exact z08 (by refine ⟨_, by omega, n + 1, _, rfl, by omega, fun q h h' => if e : q = n then (by subst e; exact hv) else m_1 q h (by omega), by omega, ?_, ?_, ?_, ?_, ?_, ?_, ?_, ?_, ?_, ?_, rfl⟩ <;> simp only [w_len, w_2, w_3, w_6, w_7, w_9, w_10, w_11, w_12, LB, simprocAttr])
   ·have hKt : c.body[i].vars.take k = c.body[i].vars := List.take_of_length_le (by omega)
    have hgb := b_1
    rw [hKt] at hgb
    simp only [hk, z0t hi, List.length_map, w_len, w_12, w_2, w_9, w_10, w_11, w_bc0, w_bc2, w_b_1c, ↓LA, LB, simprocAttr]
    refine z3z b_2 ?_ (z0h fun a => z6m) z01 ?_ ?_ ?_ ?_ ?_ fun chc0 hc0 => ?_
    ·intro j h1 h2; simp (disch := omega) only [z00]
    ·rfl
    ·omega
    ·simp; omega
    ·simp; omega
    ·simp only [List.all_cons, List.all_nil, zge, w_b_1c, Bool.and_self]
    simp only [z02 hi (by omega), w_len, w_10, ↓LA, LB, simprocAttr]
    have hn2 : (((c.body.take (i + 1)).map (z88 A)).map GoalT.d) = (((c.body.take i).map (z88 A)).map GoalT.d) ++ [.agg [.str c.body[i].name, .sl ((c.body[i].vars.map (look A)).map TreeT.d)]] := by
     rw [z16 hi, List.map_append, List.map_append]; rfl
    exact z08 (by refine ⟨_, by omega, i + 1, _, _, _, .arr (nxk + 12) 2 true 0 ((((c.body.take i).map (z88 A)).map GoalT.d).length + 1), rfl, by omega, (by rw [hn2]; exact z34 hc0 (by intro j h1 h2 h3; simp (disch := omega) only [z00, z0d h3]) (by omega) (by omega) (by omega) z01 rfl ⟨CV.str, CV.lo (by omega) (CV.hi ((hgb.frame (by intro j h1 h2; simp (disch := omega) only [z00, z0d (b_2.away (j := j) (by omega))])).cv (by omega) (z0h fun a => z1k)) (by omega)), trivial⟩), (by intro q hq; simp (disch := omega) only [z00, z0d (b_2.away (j := q) (by omega))]; exact b_3 q hq), ?_, ?_, (by omega), Nat.zero_le _, ?_, ?_, ?_, ?_, ?_, ?_, ?_, rfl⟩ <;> simp only [w_len, w_2, w_3, w_6, w_7, w_bc0, w_bc1, w_bN, w_b_2V, LB, simprocAttr])
  ·have hbt : c.body.take i = c.body := List.take_of_length_le (by omega)
   have hga := a_1
   rw [hbt] at hga
   simp only [hi, List.length_map, w_len, w_10, w_2, w_9, w_ac0, ↓LA, LB, simprocAttr]
   exact ⟨by show n0 ≤ _; omega, a_2, .inl ⟨hfit, xo, rfl, GP.mono (fun q hq => ⟨by have := hq.1; omega, by have := hq.2; show q < _; omega⟩) hga⟩⟩
 ·have hS : zcf c g = [.sl [], .sl [], .bool false] := if_neg hfit
  rw [hS] at hF
  simp only [List.map_cons, List.map_nil, tupV] at hF
  simp only [T1.i10, ClauseT.d, GoalT.d, hF, hx0, hx1, hx2, w_len, w_0, w_1, ↓LA, LB, simprocAttr]
  exact ⟨by show n0 ≤ n0 + 18; omega, (by intro q hq; simp (disch := omega) only [z00]), .inr ⟨hfit, rfl⟩⟩
end Go.Lift.K
