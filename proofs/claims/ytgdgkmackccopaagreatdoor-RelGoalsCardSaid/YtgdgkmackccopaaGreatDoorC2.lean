/- Part C2 of the proof. -/
import Derived.Test.YtgdgkmackccopaaGreatDoorB2
import Derived.Test.YtgdgkmackccopaaGreatDoorA7
import Derived.KernelRfl
import Derived.Test.YtgdgkmackccopaaGreatDoorB6
import Derived.Test.YtgdgkmackccopaaGreatDoorB8
set_option linter.all false
namespace Go.Lift.K
open Go Go.Lift T1
set_option maxRecDepth 100000
def itoS (n : Nat) : List Nat := if n < 10 then [48 + n] else [48 + n / 10, 48 + n % 10]
theorem itx {n : Nat} {st : St} (h : zbk T1.G (zpf []) 1000 100 (.fn 107 [] []) [.d (.int .i64 (n : Nat))] St.nul = some (.d (.str (itoS n)), St.nul) := by kernel_rfl) : z06 T1.G (.fn 107 [] []) [.d (.int .i64 (n : Nat))] st = some (.d (.str (itoS n)), st) := by
 obtain ⟨F, h1, h2, h3, h4⟩ := z63 (T := []) all_nil (ds := [.int .i64 (n : Nat)]) (rs := [.str (itoS n)]) T1.g107 rfl rfl h
 exact zd6 (ds := [_]) (rs := [_]) h1 h2 h3 h4
theorem zze {n : Nat} (h : n < 60) (st : St) : z06 T1.G (.fn 107 [] []) [.d (.int .i64 (n : Nat))] st = some (.d (.str (itoS n)), st) := by
 match n, h with
 | 0, _ => exact itx
 | 1, _ => exact itx
 | 2, _ => exact itx
 | 3, _ => exact itx
 | 4, _ => exact itx
 | 5, _ => exact itx
 | 6, _ => exact itx
 | 7, _ => exact itx
 | 8, _ => exact itx
 | 9, _ => exact itx
 | 10, _ => exact itx
 | 11, _ => exact itx
 | 12, _ => exact itx
 | 13, _ => exact itx
 | 14, _ => exact itx
 | 15, _ => exact itx
 | 16, _ => exact itx
 | 17, _ => exact itx
 | 18, _ => exact itx
 | 19, _ => exact itx
 | 20, _ => exact itx
 | 21, _ => exact itx
 | 22, _ => exact itx
 | 23, _ => exact itx
 | 24, _ => exact itx
 | 25, _ => exact itx
 | 26, _ => exact itx
 | 27, _ => exact itx
 | 28, _ => exact itx
 | 29, _ => exact itx
 | 30, _ => exact itx
 | 31, _ => exact itx
 | 32, _ => exact itx
 | 33, _ => exact itx
 | 34, _ => exact itx
 | 35, _ => exact itx
 | 36, _ => exact itx
 | 37, _ => exact itx
 | 38, _ => exact itx
 | 39, _ => exact itx
 | 40, _ => exact itx
 | 41, _ => exact itx
 | 42, _ => exact itx
 | 43, _ => exact itx
 | 44, _ => exact itx
 | 45, _ => exact itx
 | 46, _ => exact itx
 | 47, _ => exact itx
 | 48, _ => exact itx
 | 49, _ => exact itx
 | 50, _ => exact itx
 | 51, _ => exact itx
 | 52, _ => exact itx
 | 53, _ => exact itx
 | 54, _ => exact itx
 | 55, _ => exact itx
 | 56, _ => exact itx
 | 57, _ => exact itx
 | 58, _ => exact itx
 | 59, _ => exact itx
 | n + 60, h => omega
theorem zui {n m : Nat} (hn : n < 100) (hm : m < 100) (h : itoS n = itoS m) : n = m := by
 unfold itoS at h
 by_cases h1 : n < 10 <;> by_cases h2 : m < 10 <;> simp [h1, h2] at h <;> omega
end Go.Lift.K
namespace Go.Lift.K
open Go Go.Lift
set_option maxRecDepth 100000
def kidS (k : Int) : List Nat := 44 :: itoS k.toNat
def z6c (x : NodeT) : List Nat := x.name ++ x.kids.flatMap kidS ++ [59]
def z3x (t : TreeT) : List Nat := t.nodes.flatMap z6c
theorem z9f {x y : List Nat} (h : x.length + y.length ≤ 4611686018427387904) : binV .add (.d (.str x)) (.d (.str y)) = some (.d (.str (x ++ y))) := by
 simp [binV, binS, h]
theorem zjv {n : Nat} : (itoS n).length ≤ 2 := by
 unfold itoS
 split <;> simp
theorem zaj {l : List Int} : (l.flatMap kidS).length ≤ 3 * l.length := by
 induction l with
 | nil => simp
 | cons a l ih =>
  have := zjv (n := a.toNat)
  simp only [List.flatMap_cons, List.length_append, kidS, List.length_cons]
  omega
theorem zc5 {l : List NodeT} (h : ∀ x ∈ l, x.name.length ≤ 8 ∧ x.kids.length ≤ 4) : (l.flatMap z6c).length ≤ 21 * l.length := by
 induction l with
 | nil => simp
 | cons a l ih =>
  have h1 := h a (by simp)
  have h2 := ih fun x hx => h x (List.mem_cons_of_mem _ hx)
  have h3 := zaj (l := a.kids)
  simp only [List.flatMap_cons, List.length_append, z6c, List.length_cons, List.length_nil]
  omega
theorem zqu {α β : Type} {l : List α} {f : α → List β} {i : Nat} (h : i < l.length) : (l.take (i + 1)).flatMap f = (l.take i).flatMap f ++ f l[i] := by
 rw [z4j h, List.flatMap_append]
 simp
theorem zxv {t : TreeT} (ht : t.ok) (h : Ok t) (st : St) : z06 T1.G (.fn 78 [] []) [.d t.d] st = some (.d (.str (z3x t)), st) := by
 obtain ⟨c1, c2, c3, c4, c5⟩ := z5x.1 h.spec
 have hsm : ∀ x ∈ t.nodes, x.name.length ≤ 8 ∧ x.kids.length ≤ 4 := fun x hx => ⟨z78 (c3 x hx), c2 x hx⟩
 refine z15 (ds := [t.d]) (rs := [.str (z3x t)]) T1.g78 rfl rfl (fun e w_len harg => ?_) st
 have w_len : e.length = 36 := w_len
 have w_0 := harg 0 (by simp)
 clear harg
 simp only [List.map_cons, List.map_nil, List.getD_cons_zero] at w_0
 have w_e0 : List.flatMap z6c [] = [] := rfl
 have w_e1 : List.flatMap kidS [] = [] := rfl
 simp only [T1.i78, TreeT.d, w_len, w_0, ↓LA, LB, simprocAttr]
 refine z0e (fun e0 s0 m env st => ∃ (i nxi lwi : Nat) (si : List (Nat × Obj)), m = t.nodes.length - i ∧ (i ≤ t.nodes.length) ∧ sget si (0) = some (.cells [.d (.sl (t.nodes.map NodeT.d)), .d (.int .i64 t.root)]) ∧ 1 ≤ nxi ∧ 0 ≤ lwi ∧ env.length = 36 ∧ env.getD 11 .undef = .d (.int .i64 i) ∧ env.getD 1 .undef = .ptr 0 0 ∧ env.getD 3 .undef = .d (.str ((t.nodes.take i).flatMap z6c)) ∧ env.getD 9 .undef = .d (.sl (t.nodes.map NodeT.d)) ∧ env.getD 10 .undef = .d (.int .i64 t.nodes.length) ∧ st = { s := si, next := nxi, low := lwi }) ?_ (t.nodes.length) (by refine ⟨0, _, _, _, rfl, by omega, ?_, (by omega), Nat.zero_le _, ?_, ?_, ?_, ?_, ?_, ?_, rfl⟩ <;> simp only [w_len, w_e0, LB, simprocAttr])
 rintro m env st ⟨i, nxi, lwi, si, hm, a_0, w_ac0, w_ab, w_alo, w_len, w_11, w_1, w_3, w_9, w_10, rfl⟩
 have w_aN := cf1 (x := nxi) (a := 0) (by omega)
 have w_aS := cf2 (x := nxi) (by omega) w_ac0
 have w_aZ := zf0 (x := nxi) (n := 1) (by omega)
 have hAl := zc5 (l := t.nodes.take i) (fun x hx => hsm x (List.mem_of_mem_take hx))
 rw [List.length_take] at hAl
 by_cases hi : i < t.nodes.length
 ·obtain ⟨n1, n2⟩ := hsm _ (List.getElem_mem hi)
  have hkb := c5 _ (List.getElem_mem hi)
  obtain ⟨A, hA⟩ : ∃ A, A = (t.nodes.take i).flatMap z6c := ⟨_, rfl⟩
  rw [← hA] at hAl w_3
  have s1 := z9f (x := A) (y := t.nodes[i].name) (by omega)
  simp only [hi, z32 hi, s1, List.length_map, w_len, w_11, w_3, w_9, w_10, ↓LA, LB, simprocAttr]
  refine z0e (fun e0 s0 m env st => ∃ (j nxj lwj : Nat) (sj : List (Nat × Obj)), m = t.nodes[i].kids.length - j ∧ (j ≤ t.nodes[i].kids.length) ∧ sget sj (0) = some (.cells [.d (.sl (t.nodes.map NodeT.d)), .d (.int .i64 t.root)]) ∧ 1 ≤ nxj ∧ 0 ≤ lwj ∧ env.length = 36 ∧ env.getD 22 .undef = .d (.int .i64 j) ∧ env.getD 1 .undef = .ptr 0 0 ∧ env.getD 3 .undef = .d (.str (A ++ t.nodes[i].name ++ (t.nodes[i].kids.take j).flatMap kidS)) ∧ env.getD 9 .undef = .d (.sl (t.nodes.map NodeT.d)) ∧ env.getD 10 .undef = .d (.int .i64 t.nodes.length) ∧ env.getD 11 .undef = .d (.int .i64 i) ∧ env.getD 20 .undef = .d (.sl (t.nodes[i].kids.map (D.int .i64))) ∧ env.getD 21 .undef = .d (.int .i64 t.nodes[i].kids.length) ∧ st = { s := sj, next := nxj, low := lwj }) ?_ (t.nodes[i].kids.length) (by refine ⟨0, _, _, _, rfl, by omega, ?_, (by omega), Nat.zero_le _, ?_, ?_, ?_, ?_, ?_, ?_, ?_, ?_, ?_, rfl⟩ <;> simp only [w_len, w_11, w_1, w_9, w_10, w_ac0, w_aN, w_e1, LB, simprocAttr])
  rintro m env st ⟨j, nxj, lwj, sj, hm, b_0, w_bc0, w_bb, w_blo, w_len, w_22, w_1, w_3, w_9, w_10, w_11, w_20, w_21, rfl⟩
  have w_bN := cf1 (x := nxj) (a := 0) (by omega)
  have w_bS := cf2 (x := nxj) (by omega) w_bc0
  have w_bZ := zf0 (x := nxj) (n := 1) (by omega)
  by_cases hj : j < t.nodes[i].kids.length
  ·obtain ⟨q1, q2⟩ := hkb _ (List.getElem_mem hj)
   obtain ⟨q, hq⟩ : ∃ q : Nat, t.nodes[i].kids[j] = (q : Nat) := ⟨t.nodes[i].kids[j].toNat, by omega⟩
   have hIt := fun st => zze (n := q) (by omega) st
   have hil := zjv (n := q)
   have s2 := z9f (x := [44]) (y := itoS q) (by simp; omega)
   have hkl := zaj (l := t.nodes[i].kids.take j)
   rw [List.length_take] at hkl
   have s3 := z9f (x := A ++ t.nodes[i].name ++ (t.nodes[i].kids.take j).flatMap kidS) (y := [44] ++ itoS q) (by simp only [List.length_append, List.length_cons, List.length_nil]; omega)
   have s4 : A ++ t.nodes[i].name ++ (t.nodes[i].kids.take j).flatMap kidS ++ ([44] ++ itoS q) = A ++ t.nodes[i].name ++ (t.nodes[i].kids.take (j + 1)).flatMap kidS := by
    rw [zqu hj, hq, List.append_assoc]
    rfl
   have hia := z3c (k := .i64) hj
   rw [hq] at hia
   rw [s4] at s3
   simp only [List.cons_append, List.nil_append] at s2 s3
   simp only [hj, hia, hIt, s2, s3, z08 hj (by omega), w_len, w_22, w_3, w_20, w_21, ↓LA, LB, simprocAttr]
   exact z0c (by refine ⟨_, by omega, j + 1, _, _, _, rfl, by omega, ?_, (by omega), Nat.zero_le _, ?_, ?_, ?_, ?_, ?_, ?_, ?_, ?_, ?_, rfl⟩ <;> simp only [w_len, w_1, w_9, w_10, w_11, w_20, w_21, w_bc0, LB, simprocAttr])
  ·have hje : j = t.nodes[i].kids.length := by omega
   have hkl := zaj (l := t.nodes[i].kids)
   subst hje
   rw [List.take_length] at w_3
   have s5 := z9f (x := A ++ t.nodes[i].name ++ t.nodes[i].kids.flatMap kidS) (y := [59]) (by simp only [List.length_append, List.length_cons, List.length_nil]; omega)
   have s6 : A ++ t.nodes[i].name ++ t.nodes[i].kids.flatMap kidS ++ [59] = (t.nodes.take (i + 1)).flatMap z6c := by
    rw [zqu hi, ← hA, z6c]
    simp
   rw [s6] at s5
   simp only [hj, s5, z08 hi (by omega), w_len, w_22, w_3, w_11, w_21, ↓LA, LB, simprocAttr]
   exact z0c (by refine ⟨_, by omega, i + 1, _, _, _, rfl, by omega, ?_, (by omega), Nat.zero_le _, ?_, ?_, ?_, ?_, ?_, ?_, rfl⟩ <;> simp only [w_len, w_1, w_9, w_10, w_bc0, LB, simprocAttr])
 ·have hie : t.nodes.take i = t.nodes := List.take_of_length_le (by omega)
  simp only [hi, hie, w_len, w_11, w_3, w_10, ↓LA, LB, simprocAttr]
  exact rq1 (by rfl)
end Go.Lift.K
namespace Go.Lift.K
open Go Go.Lift
theorem zcv {P : Nat → Bool} : ∀ {x y a b : List Nat}, x.all P = true → y.all P = true → (∀ c r, a = c :: r → P c = false) → (∀ c r, b = c :: r → P c = false) → x ++ a = y ++ b → x = y ∧ a = b
 | [], [], a, b, _, _, _, _, h => ⟨rfl, h⟩
 | [], c :: y, a, b, _, hy, ha, _, h => by
  have h : a = c :: (y ++ b) := h
  have h1 := ha _ _ h
  simp only [List.all_cons, Bool.and_eq_true] at hy
  rw [hy.1] at h1
  cases h1
 | c :: x, [], a, b, hx, _, _, hb, h => by
  have h : c :: (x ++ a) = b := h
  have h1 := hb _ _ h.symm
  simp only [List.all_cons, Bool.and_eq_true] at hx
  rw [hx.1] at h1
  cases h1
 | c :: x, d :: y, a, b, hx, hy, ha, hb, h => by
  simp only [List.all_cons, Bool.and_eq_true] at hx hy
  simp only [List.cons_append, List.cons.injEq] at h
  obtain ⟨h1, h2⟩ := zcv hx.2 hy.2 ha hb h.2
  exact ⟨by rw [h.1, h1], h2⟩
def isDg (c : Nat) : Bool := decide (48 ≤ c) && decide (c ≤ 57)
theorem zq7 {n : Nat} (h : n < 100) : (itoS n).all isDg = true := by
 unfold itoS
 split
 ·simp [isDg]; omega
 ·simp [isDg]; omega
theorem zfp {l : List Int} {a : List Nat} {c : Nat} {r : List Nat} (h : l.flatMap kidS ++ 59 :: a = c :: r) : c = 44 ∨ c = 59 := by
 cases l with
 | nil =>
  simp only [List.flatMap_nil, List.nil_append, List.cons.injEq] at h
  exact .inr h.1.symm
 | cons k l =>
  simp only [List.flatMap_cons, kidS, List.cons_append, List.cons.injEq] at h
  exact .inl h.1.symm
theorem zjr : ∀ {l m : List Int} {a b : List Nat}, (∀ k ∈ l, 0 ≤ k ∧ k < 100) → (∀ k ∈ m, 0 ≤ k ∧ k < 100) → l.flatMap kidS ++ 59 :: a = m.flatMap kidS ++ 59 :: b → l = m ∧ a = b
 | [], [], a, b, _, _, h => by
  simp only [List.flatMap_nil, List.nil_append, List.cons.injEq, true_and] at h
  exact ⟨rfl, h⟩
 | [], k :: m, a, b, _, _, h => by simp [kidS] at h
 | k :: l, [], a, b, _, _, h => by simp [kidS] at h
 | k :: l, q :: m, a, b, hl, hm, h => by
  obtain ⟨k1, k2⟩ := hl k (by simp)
  obtain ⟨q1, q2⟩ := hm q (by simp)
  simp only [List.flatMap_cons, kidS, List.cons_append, List.append_assoc, List.cons.injEq, true_and] at h
  have hd : ∀ {w : List Int} {e : List Nat}, ∀ c r, w.flatMap kidS ++ 59 :: e = c :: r → isDg c = false := fun c r e => by
   rcases zfp e with rfl | rfl <;> decide
  obtain ⟨h1, h2⟩ := zcv (P := isDg) (zq7 (by omega)) (zq7 (by omega)) hd hd h
  obtain ⟨h3, h4⟩ := zjr (fun x hx => hl x (List.mem_cons_of_mem _ hx)) (fun x hx => hm x (List.mem_cons_of_mem _ hx)) h2
  have h5 := zui (by omega) (by omega) h1
  exact ⟨by rw [h3, show k = q by omega], h4⟩
def Nd (x : NodeT) : Prop := z0z x.name = true ∧ ∀ k ∈ x.kids, 0 ≤ k ∧ k < 100
theorem ztm {x y : NodeT} {a b : List Nat} (hx : Nd x) (hy : Nd y) (h : z6c x ++ a = z6c y ++ b) : x = y ∧ a = b := by
 have hn : ∀ {z : NodeT}, Nd z → z.name.all isAz = true := fun h => by
  have := h.1
  unfold z0z at this
  simp only [Bool.and_eq_true] at this
  exact this.2
 simp only [z6c, List.append_assoc, List.cons_append, List.nil_append] at h
 have hd : ∀ {w : List Int} {e : List Nat}, ∀ c r, w.flatMap kidS ++ 59 :: e = c :: r → isAz c = false := fun c r e => by
  rcases zfp e with rfl | rfl <;> decide
 obtain ⟨h1, h2⟩ := zcv (P := isAz) (hn hx) (hn hy) hd hd h
 obtain ⟨h3, h4⟩ := zjr hx.2 hy.2 h2
 cases x; cases y
 simp at h1 h3
 exact ⟨by rw [h1, h3], h4⟩
theorem zfi : ∀ {l m : List NodeT}, (∀ x ∈ l, Nd x) → (∀ x ∈ m, Nd x) → l.flatMap z6c = m.flatMap z6c → l = m
 | [], [], _, _, _ => rfl
 | [], y :: m, _, _, h => by simp [z6c] at h
 | x :: l, [], _, _, h => by simp [z6c] at h
 | x :: l, y :: m, hl, hm, h => by
  simp only [List.flatMap_cons] at h
  obtain ⟨h1, h2⟩ := ztm (hl x (by simp)) (hm y (by simp)) h
  rw [h1, zfi (fun z hz => hl z (List.mem_cons_of_mem _ hz)) (fun z hz => hm z (List.mem_cons_of_mem _ hz)) h2]
theorem zsy {t u : TreeT} (ht : Ok t) (hu : Ok u) (h0 : t.root = u.root) (h : z3x t = z3x u) : t = u := by
 have hnd : ∀ {w : TreeT}, Ok w → ∀ x ∈ w.nodes, Nd x := fun {w} hw x hx => by
  obtain ⟨c1, c2, c3, c4, c5⟩ := z5x.1 hw.spec
  exact ⟨c3 x hx, fun k hk => by have := c5 x hx k hk; omega⟩
 have := zfi (hnd ht) (hnd hu) h
 cases t; cases u
 simp at this h0
 rw [this, h0]
end Go.Lift.K
namespace Go.Lift.K
open Go Go.Lift
set_option maxRecDepth 100000
def arK (g : GoalT) (j : Nat) : TreeT := g.args.getD j ⟨[], 0⟩
def keyL (g : GoalT) (i : Nat) : List D := [.str (if 0 < i then z3x (arK g 0) else []), .str (if 1 < i then z3x (arK g 1) else []), .str (if 2 < i then z3x (arK g 2) else [])]
def keyD (g : GoalT) : D := .agg (.str g.rel :: keyL g g.args.length)
theorem zz9 {g : GoalT} {i : Nat} (hi : i < 3) : (1 + (i + 1) ≤ (keyL g i).length + 1) = True ∧ (V.d (.str g.rel) :: (keyL g i).map V.d).take (1 + i) ++ [V.d (.str (z3x (arK g i)))] ++ (V.d (.str g.rel) :: (keyL g i).map V.d).drop (1 + (i + 1)) = V.d (.str g.rel) :: (keyL g (i + 1)).map V.d := by
 have : i = 0 ∨ i = 1 ∨ i = 2 := by omega
 rcases this with rfl | rfl | rfl <;> exact ⟨eq_true (by show _ ≤ 4; omega), rfl⟩
theorem zuc {g : GoalT} (hg : Og g) (hl : g.args.length ≤ 3) (st : St) : z06 T1.G (.fn 57 [] []) [.d g.d] st = some (.d (keyD g), st) := by
 refine z15 (ds := [g.d]) (rs := [keyD g]) T1.g57 rfl rfl (fun e w_len harg => ?_) st
 have w_len : e.length = 24 := w_len
 have w_0 := harg 0 (by simp)
 clear harg
 simp only [List.map_cons, List.map_nil, List.getD_cons_zero] at w_0
 have w_k0 : List.map V.d (keyL g 0) = [.d (.str []), .d (.str []), .d (.str [])] := rfl
 simp only [T1.i57, GoalT.d, w_len, w_0, ↓LA, LB, simprocAttr]
 refine z0e (fun e0 s0 m env st => ∃ (i nxi lwi : Nat) (si : List (Nat × Obj)), m = g.args.length - i ∧ (i ≤ g.args.length) ∧ sget si (0) = some (.cells [.d (.str g.rel), .d (.sl (g.args.map TreeT.d))]) ∧ sget si (1) = some (.cells [.d (.str []), .d (.str []), .d (.str []), .d (.str [])]) ∧ sget si (5) = some (.cells (.d (.str g.rel) :: (keyL g i).map V.d)) ∧ 7 ≤ nxi ∧ 0 ≤ lwi ∧ env.length = 24 ∧ env.getD 12 .undef = .d (.int .i64 i) ∧ env.getD 1 .undef = .ptr 0 0 ∧ env.getD 2 .undef = .ptr 1 0 ∧ env.getD 3 .undef = .ptr 5 0 ∧ env.getD 10 .undef = .d (.sl (g.args.map TreeT.d)) ∧ env.getD 11 .undef = .d (.int .i64 g.args.length) ∧ st = { s := si, next := nxi, low := lwi }) ?_ (g.args.length) (by refine ⟨0, _, _, _, rfl, by omega, ?_, ?_, ?_, (by omega), Nat.zero_le _, ?_, ?_, ?_, ?_, ?_, ?_, ?_, rfl⟩ <;> simp only [w_len, w_k0, LB, simprocAttr])
 rintro m env st ⟨i, nxi, lwi, si, hm, a_0, w_ac0, w_ac1, w_ac2, w_ab, w_alo, w_len, w_12, w_1, w_2, w_3, w_10, w_11, rfl⟩
 have w_aN := aI (cf1 (x := nxi) (a := 0) (by omega)) (aI (cf1 (x := nxi) (a := 1) (by omega)) (cf1 (x := nxi) (a := 5) (by omega)))
 have w_aS := aI (cf2 (x := nxi) (by omega) w_ac0) (aI (cf2 (x := nxi) (by omega) w_ac1) (cf2 (x := nxi) (by omega) w_ac2))
 have w_aZ := zf0 (x := nxi) (n := 7) (by omega)
 by_cases hi : i < g.args.length
 ·obtain ⟨t1, t2⟩ := hg _ (List.getElem_mem hi)
  have hT := fun st => zxv t2 t1 st
  simp only [TreeT.d] at hT
  have hia : z1j 3 1 (.ptr 5 1) (i : Int) = some (.ptr 5 (1 + i)) := by
   simp only [z1j]
   rw [if_pos ⟨by omega, by omega⟩]
   simp
  obtain ⟨q1, q2⟩ := zz9 (g := g) (i := i) (by omega)
  have q3 : arK g i = g.args[i] := by simp [arK, hi]
  rw [q3] at q2
  simp only [hi, z4p hi, hT, hia, q1, q2, z08 hi (by omega), w_len, w_12, w_3, w_10, w_11, w_ac2, w_aN, ↓LA, LB, simprocAttr]
  exact z0c (by refine ⟨_, by omega, i + 1, _, _, _, rfl, by omega, ?_, ?_, ?_, (by omega), Nat.zero_le _, ?_, ?_, ?_, ?_, ?_, ?_, ?_, rfl⟩ <;> simp only [w_len, w_1, w_2, w_3, w_10, w_11, w_ac0, w_ac1, w_aN, w_aS, LB, simprocAttr])
 ·have hie : i = g.args.length := by omega
  have hkd : keyD g = .agg [.str g.rel, .str (if 0 < i then z3x (arK g 0) else []), .str (if 1 < i then z3x (arK g 1) else []), .str (if 2 < i then z3x (arK g 2) else [])] := by rw [hie]; rfl
  rw [hkd]
  unfold keyL at w_ac2
  obtain ⟨x0, hx0⟩ : ∃ x, x = (if 0 < i then z3x (arK g 0) else []) := ⟨_, rfl⟩
  obtain ⟨x1, hx1⟩ : ∃ x, x = (if 1 < i then z3x (arK g 1) else []) := ⟨_, rfl⟩
  obtain ⟨x2, hx2⟩ : ∃ x, x = (if 2 < i then z3x (arK g 2) else []) := ⟨_, rfl⟩
  rw [← hx0, ← hx1, ← hx2] at w_ac2 ⊢
  simp only [hi, w_len, w_12, w_2, w_3, w_11, w_ac1, w_ac2, w_aS, ↓LA, LB, simprocAttr]
  exact rq1 (by rfl)
end Go.Lift.K
namespace Go.Lift.K
open Go Go.Lift
theorem zim {t : TreeT} (h : Lst t) : z3x t ≠ [] := by
 have h0 := h.pos
 unfold z3x
 cases hn : t.nodes with
 | nil => rw [hn] at h0; simp at h0
 | cons x l => simp [z6c]
theorem y27 {g h : GoalT} (e : keyD g = keyD h) : g.rel = h.rel ∧ ∀ j, j < 3 → (if j < g.args.length then z3x (arK g j) else []) = (if j < h.args.length then z3x (arK h j) else []) := by
 unfold keyD keyL at e
 simp only [D.agg.injEq, List.cons.injEq, D.str.injEq, and_true] at e
 obtain ⟨e0, e1, e2, e3⟩ := e
 refine ⟨e0, fun j hj => ?_⟩
 have : j = 0 ∨ j = 1 ∨ j = 2 := by omega
 rcases this with rfl | rfl | rfl <;> assumption
theorem zza {g h : GoalT} (hg : Lg g) (hh : Lg h) (lg : g.args.length ≤ 3) (lh : h.args.length ≤ 3) (e : keyD g = keyD h) : g = h := by
 obtain ⟨e0, e1⟩ := y27 e
 have ha : ∀ {w : GoalT} {j : Nat} (hj : j < w.args.length), arK w j = w.args[j] := fun hj => by simp [arK, hj]
 have hlen : g.args.length = h.args.length := by
  rcases Nat.lt_trichotomy g.args.length h.args.length with hl | hl | hl
  ·have := e1 g.args.length (by omega)
   rw [if_neg (by omega), if_pos hl, ha hl] at this
   exact absurd this.symm (zim (hh _ (List.getElem_mem hl)))
  ·exact hl
  ·have := e1 h.args.length (by omega)
   rw [if_pos hl, if_neg (by omega), ha hl] at this
   exact absurd this (zim (hg _ (List.getElem_mem hl)))
 have hargs : g.args = h.args := List.ext_getElem hlen fun j h1 h2 => by
  have := e1 j (by omega)
  rw [if_pos h1, if_pos h2, ha h1, ha h2] at this
  have l1 := hg _ (List.getElem_mem h1)
  have l2 := hh _ (List.getElem_mem h2)
  exact zsy l1.gdt l2.gdt (l1.root.trans l2.root.symm) this
 cases g; cases h
 simp at e0 hargs
 rw [e0, hargs]
end Go.Lift.K
namespace Go.Lift.K
open Go Go.Lift Classical
set_option maxRecDepth 100000
noncomputable def ixG (L : List GoalT) (g : GoalT) : Option Nat := L.findIdx? fun x => decide (x = g)
def Kmp (es : List (D × V)) (L : List GoalT) : Prop := ∀ g, Lg g → g.args.length ≤ 3 → z1s es (keyD g) = (ixG L g).map fun i => V.d (.int .i64 (i : Nat))
theorem zz7 : Kmp [] [] := fun g _ _ => rfl
theorem zju {L : List GoalT} {g h : GoalT} (hn : ixG L g = none) : ixG (L ++ [g]) h = if h = g then some L.length else ixG L h := by
 unfold ixG at hn ⊢
 rw [List.findIdx?_append]
 by_cases e : h = g
 ·subst e
  rw [hn, if_pos rfl]
  simp
 ·rw [if_neg e]
  cases hc : L.findIdx? fun x => decide (x = h) with
  | some i => rfl
  | none =>
   have : ¬ g = h := fun k => e k.symm
   simp [this]
theorem zz6 {es : List (D × V)} {L : List GoalT} {g : GoalT} (hg : Lg g) (hl : g.args.length ≤ 3) (h : Kmp es L) (hn : ixG L g = none) : Kmp (z22 es (keyD g) (.d (.int .i64 (L.length : Nat)))) (L ++ [g]) := fun w hw hwl => by
 rw [z4n, h w hw hwl, zju hn]
 by_cases e : w = g
 ·subst e
  rw [if_pos (D.beq_refl _), if_pos rfl]
  rfl
 ·rw [if_neg (fun k => e (zza hw hg hwl hl (D.eq_of_beq k).symm)), if_neg e]
theorem zub {g : GoalT} (hg : Og g) (hr : g.rel.length ≤ 1000) : z2g true [.s, .s, .s, .s] (keyD g) = true := by
 have ht : ∀ j, (if j < g.args.length then z3x (arK g j) else []).length ≤ 2000 := fun j => by
  by_cases hj : j < g.args.length
  ·rw [if_pos hj]
   have e : arK g j = g.args[j] := by simp [arK, hj]
   rw [e]
   obtain ⟨o1, o2⟩ := hg _ (List.getElem_mem hj)
   obtain ⟨c1, c2, c3, c4, c5⟩ := z5x.1 o1.spec
   have := zc5 (l := g.args[j].nodes) fun x hx => ⟨z78 (c3 x hx), c2 x hx⟩
   unfold z3x
   omega
  ·rw [if_neg hj]; simp
 have h0 := ht 0
 have h1 := ht 1
 have h2 := ht 2
 simp only [keyD, keyL, z2g, conf, z7q, Bool.true_and, Bool.and_true, Bool.and_eq_true, decide_eq_true_eq]
 omega
end Go.Lift.K
namespace Go.Lift.K
open Go Go.Lift Classical
set_option maxRecDepth 100000
def y3i (s0 : List (Nat × Obj)) (nx km kg : Nat) (S : Nat → Prop) (es : List (D × V)) (L : List GoalT) (c0 c1 gv c3 c4 c5 : V) (g : GoalT) (v : V) (st : St) : Prop :=
 nx ≤ st.next ∧ (∀ q, q < nx → q ≠ km → q ≠ kg → ¬ S q → sget st.s q = sget s0 q) ∧
  ((∃ i, ixG L g = some i ∧ v = .d (.int .i64 (i : Nat)) ∧ ∀ q, q < nx → sget st.s q = sget s0 q) ∨
   (ixG L g = none ∧ v = .d (.int .i64 (L.length : Nat)) ∧ sget st.s km = some (.map 140 (z22 es (keyD g) (.d (.int .i64 (L.length : Nat))))) ∧
    ∃ gv', sget st.s kg = some (.cells [c0, c1, gv', c3, c4, c5]) ∧ GP st.s false (fun q => S q ∨ (nx ≤ q ∧ q < st.next)) 0 2 true gv' ((L ++ [g]).map GoalT.d)))
set_option maxHeartbeats 1000000 in
theorem zys {g : GoalT} (hg : Lg g) (hl : g.args.length ≤ 3) (hr : g.rel.length ≤ 1000) {L : List GoalT} (hLl : L.length ≤ 1000000) {es : List (D × V)} (hk : Kmp es L) {kn km kp kg : Nat} {c0 c1 gv c3 c4 c5 : V} {S : Nat → Prop} {s : List (Nat × Obj)} {nx lw : Nat}
  (h1 : sget s kn = some (.cells [.map km])) (h2 : sget s km = some (.map 140 es)) (h3 : sget s kp = some (.cells [.ptr kg 0])) (h4 : sget s kg = some (.cells [c0, c1, gv, c3, c4, c5])) (hgv : GP s false S 0 2 true gv (L.map GoalT.d))
  (hS : ∀ q, S q → q < nx ∧ q ≠ kn ∧ q ≠ km ∧ q ≠ kp ∧ q ≠ kg) (hlt : kn < nx ∧ km < nx ∧ kp < nx ∧ kg < nx) (hne : kn ≠ km ∧ kn ≠ kp ∧ kn ≠ kg ∧ km ≠ kp ∧ km ≠ kg ∧ kp ≠ kg) (hb : V.beqL [c0, c1, gv, c3, c4, c5] [c0, c1, gv, c3, c4, c5] = true) :
  PostV (z06 G (.fn 56 [] [.ptr kn 0, .ptr kp 0]) [.d g.d] { s := s, next := nx, low := lw }) (y3i s nx km kg S es L c0 c1 gv c3 c4 c5 g) := by
 have hK := fun st => zuc hg.og hl st
 have hcf := zub hg.og hr
 have hget := hk g hg hl
 obtain ⟨x0, hx0⟩ : ∃ x, x = (if 0 < g.args.length then z3x (arK g 0) else []) := ⟨_, rfl⟩
 obtain ⟨x1, hx1⟩ : ∃ x, x = (if 1 < g.args.length then z3x (arK g 1) else []) := ⟨_, rfl⟩
 obtain ⟨x2, hx2⟩ : ∃ x, x = (if 2 < g.args.length then z3x (arK g 2) else []) := ⟨_, rfl⟩
 have hkd : keyD g = .agg [.str g.rel, .str x0, .str x1, .str x2] := by rw [hx0, hx1, hx2]; rfl
 unfold y3i
 rw [hkd] at hK hcf hget ⊢
 simp only [GoalT.d] at hK
 have hp0 : ∀ a b : V, [a, b][0]? = some a := fun _ _ => rfl
 have hp1 : ∀ a b : V, [a, b][1]? = some b := fun _ _ => rfl
 have w_h1 := h1
 have w_h2 := h2
 have w_h3 := h3
 have w_h4 := h4
 have w_z : (∀ q, (nx + q = kn) = False) ∧ (∀ q, (nx + q = km) = False) ∧ (∀ q, (nx + q = kp) = False) ∧ (∀ q, (nx + q = kg) = False) := ⟨fun q => by simp; omega, fun q => by simp; omega, fun q => by simp; omega, fun q => by simp; omega⟩
 have w_z0 : (nx = kn) = False ∧ (nx = km) = False ∧ (nx = kp) = False ∧ (nx = kg) = False := ⟨by simp; omega, by simp; omega, by simp; omega, by simp; omega⟩
 have w_z1 : (km = kn) = False ∧ (km = kp) = False ∧ (km = kg) = False ∧ (kg = kn) = False ∧ (kg = km) = False ∧ (kg = kp) = False := ⟨by simp; omega, by simp; omega, by simp; omega, by simp; omega, by simp; omega, by simp; omega⟩
 cases hix : ixG L g with
 | some i =>
  rw [hix] at hget
  simp only [Option.map_some] at hget
  have hlk := fun z nx lw zero (h : sget z km = some (.map 140 es)) => z6s (s := z) (nx := nx) (lw := lw) (zero := zero) hcf h hget
  refine z1k (first := []) (args := [.d g.d]) (cap := [.ptr kn 0, .ptr kp 0]) T1.g56 rfl rfl rfl (fun e w_len harg => ?_)
  have w_len : e.length = 37 := w_len
  have w_0 : e.getD 0 .undef = .d g.d := harg 0 (by simp)
  have w_1 : e.getD 1 .undef = .ptr kn 0 := harg 1 (by simp)
  have w_2 : e.getD 2 .undef = .ptr kp 0 := harg 2 (by simp)
  clear harg
  simp only [T1.i56, GoalT.d, hK, hlk, hp0, hp1, w_len, w_0, w_1, w_h1, w_h2, w_h4, w_z, w_z0, ↓LA, LB, simprocAttr]
  exact ⟨by omega, fun q g1 _ _ _ => by rw [if_neg (by omega), if_neg (by omega)], .inl ⟨i, rfl, rfl, fun q g1 => by rw [if_neg (by omega), if_neg (by omega)]⟩⟩
 | none =>
  rw [hix] at hget
  simp only [Option.map_none] at hget
  have hlk := fun z nx lw zero (h : sget z km = some (.map 140 es)) => z6t (s := z) (nx := nx) (lw := lw) (zero := zero) hcf h hget
  have hU := fun z nx lw zz (h : sget z km = some (.map 140 es)) => z4m (s := z) (nx := nx) (lw := lw) (x := zz) hcf h
  have w_g1 := hgv.away (j := kp) (fun h => (hS _ h).2.2.2.1 rfl)
  have w_g2 := hgv.away (j := kg) (fun h => (hS _ h).2.2.2.2 rfl)
  have w_g3 := hgv.away (j := km) (fun h => (hS _ h).2.2.1 rfl)
  have w_g4 := hgv.away (j := kn) (fun h => (hS _ h).2.1 rfl)
  have w_gc := hgv.cell.1
  have w_gd := hgv.cell.2
  have hgl : opLen false gv = some L.length := by rw [hgv.len, List.length_map]
  refine z1k (first := []) (args := [.d g.d]) (cap := [.ptr kn 0, .ptr kp 0]) T1.g56 rfl rfl rfl (fun e w_len harg => ?_)
  have w_len : e.length = 37 := w_len
  have w_0 : e.getD 0 .undef = .d g.d := harg 0 (by simp)
  have w_1 : e.getD 1 .undef = .ptr kn 0 := harg 1 (by simp)
  have w_2 : e.getD 2 .undef = .ptr kp 0 := harg 2 (by simp)
  clear harg
  simp only [T1.i56, GoalT.d, hK, hlk, hU, hp0, hp1, hgl, hb, w_len, w_0, w_1, w_2, w_h1, w_h2, w_h3, w_h4, w_z, w_z0, w_z1, ↓LA, LB, simprocAttr]
  refine z52 hgv ?_ (z0j fun a => z7p) z02 ?_ ?_ ?_ ?_ ?_ fun chc0 hc0 => ?_
  ·intro j hj; obtain ⟨a1, a2, a3, a4, a5⟩ := hS j hj; simp (disch := omega) only [z00, z03]
  ·rfl
  ·omega
  ·simp; omega
  ·simp; omega
  ·exact rfl
  simp only [w_len, w_2, w_h2, w_h3, w_h4, w_z, w_z0, w_z1, w_g1, w_g2, w_g3, ↓LA, LB, simprocAttr]
  refine ⟨by omega, fun q g1 g2 g3 g4 => ?_, .inr ?_⟩
  ·rw [if_neg (by omega)]
   simp (disch := omega) only [z00, z03, z07 (hgv.away (j := q) g4)]
  ·have hn4 : (L ++ [g]).map GoalT.d = L.map GoalT.d ++ [.agg [.str g.rel, .sl (g.args.map TreeT.d)]] := by rw [List.map_append]; rfl
   have e : L.length = (L.map GoalT.d).length := by rw [List.length_map]
   refine ⟨_, rfl, ?_⟩
   rw [hn4, e]
   exact z5p hc0 (fun j hj ha => by obtain ⟨a1, a2, a3, a4, a5⟩ := hS j hj; simp (disch := omega) only [z00, z03, z07 ha]) (fun j hj => .inl hj) (.inr ⟨by omega, by omega⟩) (fun h => by have := (hS _ h).1; omega) z02 rfl ⟨CQ.str, CQ.data, trivial⟩
end Go.Lift.K
namespace Go.Lift.K
open Go Go.Lift Classical
set_option maxRecDepth 100000
def Rg (r : RulesT) (g : GoalT) : Prop := z0w r g = 0 ∧ Lg g
theorem z1g {r : RulesT} {g : GoalT} (h : z0w r g = 0) : z0v r = 0 ∧ ∃ x, r.rels.find? (isR g.rel) = some x ∧ (g.args.length : Int) = x.arity ∧ z0o z0b g.args = 0 := by
 unfold z0w at h
 by_cases h1 : z0v r ≠ 0
 ·rw [if_pos h1] at h; exact absurd h h1
 rw [if_neg h1] at h
 refine ⟨Classical.byContradiction h1, ?_⟩
 cases hf : r.rels.find? (isR g.rel) with
 | none => rw [hf] at h; simp at h
 | some x =>
  rw [hf] at h
  simp only at h
  by_cases h2 : (g.args.length : Int) ≠ x.arity
  ·rw [if_pos h2] at h; simp at h
  ·rw [if_neg h2] at h; exact ⟨x, rfl, Classical.byContradiction h2, h⟩
theorem zht {f : Nat → Int} {n : Nat} (h : z5f f n = 0) : ∀ i, i < n → f i = 0 := by
 intro i hi
 apply Classical.byContradiction
 intro h0
 unfold z5f at h
 have := zcd (f := f) (l := List.range n) (by simpa [z0o] using h) i (by simpa using hi)
 exact h0 this
theorem z7t {r : RulesT} (h : z0v r = 0) {x : RelT} (hx : x ∈ r.rels) : z0z x.name = true ∧ 1 ≤ x.arity ∧ x.arity ≤ 3 ∧ 0 ≤ x.rank ∧ x.rank ≤ 3 := by
 unfold z0v at h
 by_cases e1 : ((r.rels.length : Int) < 1 ∨ (8 : Int) < r.rels.length) ∨ (24 : Int) < r.clauses.length
 ·rw [if_pos e1] at h; simp at h
 rw [if_neg e1] at h
 by_cases e2 : z5f (fun i => z1d r i (r.rels.getD i ⟨[], 0, 0⟩)) r.rels.length ≠ 0
 ·rw [if_pos e2] at h; exact absurd h e2
 have e2 : z5f (fun i => z1d r i (r.rels.getD i ⟨[], 0, 0⟩)) r.rels.length = 0 := Classical.byContradiction e2
 obtain ⟨i, hi, rfl⟩ := List.mem_iff_getElem.1 hx
 have := zht e2 i hi
 have e : r.rels.getD i ⟨[], 0, 0⟩ = r.rels[i] := by simp [hi]
 rw [e] at this
 unfold z1d at this
 by_cases a1 : z0z r.rels[i].name = false
 ·rw [if_pos a1] at this; simp at this
 rw [if_neg a1] at this
 by_cases a2 : r.rels[i].arity < 1 ∨ 3 < r.rels[i].arity
 ·rw [if_pos a2] at this; simp at this
 rw [if_neg a2] at this
 by_cases a3 : r.rels[i].rank < 0 ∨ 3 < r.rels[i].rank
 ·rw [if_pos a3] at this; simp at this
 exact ⟨by simpa using a1, by omega, by omega, by omega, by omega⟩
theorem z64 {r : RulesT} (h : z0v r = 0) : r.clauses.length ≤ 24 ∧ r.rels.length ≤ 8 ∧ ∀ c ∈ r.clauses, z19 r c = 0 := by
 unfold z0v at h
 by_cases e1 : ((r.rels.length : Int) < 1 ∨ (8 : Int) < r.rels.length) ∨ (24 : Int) < r.clauses.length
 ·rw [if_pos e1] at h; simp at h
 rw [if_neg e1] at h
 by_cases e2 : z5f (fun i => z1d r i (r.rels.getD i ⟨[], 0, 0⟩)) r.rels.length ≠ 0
 ·rw [if_pos e2] at h; exact absurd h e2
 ·rw [if_neg e2] at h
  exact ⟨by omega, by omega, zcd h⟩
theorem Rg.rel {r : RulesT} {g : GoalT} (h : Rg r g) : ∃ x ∈ r.rels, g.rel = x.name ∧ (g.args.length : Int) = x.arity ∧ g.rel.length ≤ 8 ∧ 1 ≤ g.args.length ∧ g.args.length ≤ 3 ∧ 0 ≤ z5g r.rels g.rel ∧ z5g r.rels g.rel < r.rels.length := by
 obtain ⟨hc, x, hf, ha, _⟩ := z1g h.1
 have hx := List.mem_of_find?_eq_some hf
 obtain ⟨n1, n2, n3, _⟩ := z7t hc hx
 have e : x.name = g.rel := by simpa [isR] using List.find?_some hf
 refine ⟨x, hx, e.symm, ha, by rw [← e]; exact z78 n1, by omega, by omega, ?_⟩
 obtain ⟨i, hi, hi2, hi3⟩ := List.find?_eq_some_iff_getElem.1 hf |>.2
 have : z5g r.rels g.rel = i := z7i hi (fun y hy => by
  obtain ⟨j, hj, rfl⟩ := List.mem_iff_getElem.1 hy
  rw [List.length_take] at hj
  rw [List.getElem_take]
  have := hi3 j (by omega)
  simpa using this) (by rw [hi2]; simpa [isR] using e)
 omega
theorem Rg.ok {r : RulesT} (hr : r.ok) {g : GoalT} (h : Rg r g) : g.ok := by
 obtain ⟨x, hx, e, _, _, _, h3, _⟩ := h.rel
 exact ⟨by rw [e]; exact (hr.1.2 x hx).1, by unfold LOk; omega, fun t ht => (h.2 t ht).tok⟩
theorem zd2 {r : RulesT} {g : GoalT} (hg : g.ok) (h : z0w r g = 0) : Rg r (z1i g) := by
 obtain ⟨hc, x, hf, ha, he⟩ := z1g h
 have hog := zhp hg h
 refine ⟨?_, zjk hog⟩
 unfold z0w
 rw [if_neg (by rw [hc]; simp)]
 show (match r.rels.find? (isR g.rel) with | none => 1 | some x => if ((z1i g).args.length : Int) ≠ x.arity then 2 else z0o z0b (z1i g).args) = 0
 rw [hf]
 simp only
 rw [if_neg (by show ¬ (((g.args.map z2c).length : Nat) : Int) ≠ _; rw [List.length_map]; simpa using ha)]
 exact z1a fun t ht => (zjk hog t ht).gdt.spec
theorem zu1 {A : List (List Nat × TreeT)} (h : ∀ x ∈ A, Lst x.2) {v : List Nat} (hv : ∃ x ∈ A, x.1 = v) : Lst (look A v) := by
 unfold look
 cases hf : A.find? (fun x => decide (x.1 = v)) with
 | none =>
  obtain ⟨x, hx, e⟩ := hv
  rw [List.find?_eq_none] at hf
  exact absurd (hf x hx) (by simp [e])
 | some x => exact h x (List.mem_of_find?_eq_some hf)
theorem zix {r : RulesT} {g : GoalT} (h : Rg r g) {c : ClauseT} (hc : c ∈ r.clauses) (hf : fitS c g) {x : GoalT} (hx : x ∈ z2s c g) : Rg r x := by
 have hcf := z7s h.1 hc
 obtain ⟨hch, _⟩ := z1g h.1
 have hlen := hcf.len hf.1
 obtain ⟨a, ha, rfl⟩ := List.mem_map.1 hx
 have hA := zdf (n := c.head.length) h.2 (fun i hi => by omega) hf.2.1
 have hl : Lg (zbd (bndN c g c.head.length) a) := fun t ht => by
  obtain ⟨v, hv, rfl⟩ := List.mem_map.1 ht
  exact zu1 hA (hcf.th g a ha v hv)
 refine ⟨?_, hl⟩
 have hcl := (z64 hch).2.2 c hc
 have hat : z2m r c.head a = 0 := by
  unfold z19 at hcl
  cases hq : r.rels.find? (isR c.rel) with
  | none => rw [hq] at hcl; simp at hcl
  | some x =>
   rw [hq] at hcl
   simp only at hcl
   by_cases e1 : (c.head.length : Int) ≠ x.arity ∨ (4 : Int) < c.body.length ∨ c.head.all few = false
   ·rw [if_pos e1] at hcl; simp at hcl
   rw [if_neg e1] at hcl
   by_cases e2 : c.head.all nmd = false
   ·rw [if_pos e2] at hcl; simp at hcl
   rw [if_neg e2] at hcl
   exact zcd hcl a ha
 unfold z2m at hat
 unfold z0w
 rw [if_neg (by rw [hch]; simp)]
 show (match r.rels.find? (isR a.name) with | none => 1 | some x => if ((zbd (bndN c g c.head.length) a).args.length : Int) ≠ x.arity then 2 else z0o z0b (zbd (bndN c g c.head.length) a).args) = 0
 cases hq : r.rels.find? (isR a.name) with
 | none => rw [hq] at hat; simp at hat
 | some x =>
  rw [hq] at hat
  simp only at hat ⊢
  by_cases e1 : (a.vars.length : Int) ≠ x.arity
  ·rw [if_pos e1] at hat; simp at hat
  have e1 : (a.vars.length : Int) = x.arity := Classical.byContradiction e1
  rw [if_neg (by show ¬ (((a.vars.map _).length : Nat) : Int) ≠ _; rw [List.length_map]; simpa using e1)]
  exact z1a fun t ht => (hl t ht).gdt.spec
theorem zbc {r : RulesT} (h : z0v r = 0) {c : ClauseT} (hc : c ∈ r.clauses) {g : GoalT} : (z2s c g).length ≤ 4 := by
 have hcl := (z64 h).2.2 c hc
 unfold z2s
 rw [List.length_map]
 unfold z19 at hcl
 cases hq : r.rels.find? (isR c.rel) with
 | none => rw [hq] at hcl; simp at hcl
 | some x =>
  rw [hq] at hcl
  simp only at hcl
  by_cases e1 : (c.head.length : Int) ≠ x.arity ∨ (4 : Int) < c.body.length ∨ c.head.all few = false
  ·rw [if_pos e1] at hcl; simp at hcl
  ·omega
noncomputable def addG (L : List GoalT) (x : GoalT) : List GoalT := if x ∈ L then L else L ++ [x]
noncomputable def addL (L : List GoalT) (l : List GoalT) : List GoalT := l.foldl addG L
noncomputable def ix (L : List GoalT) (g : GoalT) : Nat := (ixG L g).getD 0
theorem z7g {L : List GoalT} {g : GoalT} : ixG L g = none ↔ g ∉ L := by
 unfold ixG
 rw [List.findIdx?_eq_none_iff]
 constructor
 ·intro h hg
  have := h g hg
  simp at this
 ·intro h x hx
  have : x ≠ g := fun e => h (e ▸ hx)
  simpa using this
theorem zjt {L : List GoalT} {g : GoalT} {i : Nat} (h : ixG L g = some i) : ∃ hi : i < L.length, L[i] = g ∧ g ∈ L := by
 unfold ixG at h
 obtain ⟨hi, h2, _⟩ := List.findIdx?_eq_some_iff_getElem.1 h
 have e : L[i] = g := by simpa using h2
 exact ⟨hi, e, e ▸ List.getElem_mem hi⟩
theorem zug {L : List GoalT} {g : GoalT} (h : g ∈ L) : ∃ hi : ix L g < L.length, L[ix L g] = g := by
 unfold ix
 cases hc : ixG L g with
 | none => exact absurd h (z7g.1 hc)
 | some i =>
  obtain ⟨a, b, _⟩ := zjt hc
  exact ⟨a, b⟩
theorem zzd {L M : List GoalT} {g : GoalT} (h : g ∈ L) : ixG (L ++ M) g = ixG L g := by
 unfold ixG
 rw [List.findIdx?_append]
 cases hc : L.findIdx? fun x => decide (x = g) with
 | none => exact absurd h (z7g.1 hc)
 | some i => rfl
theorem zwr {L M : List GoalT} {g : GoalT} (h : g ∈ L) : ix (L ++ M) g = ix L g := by unfold ix; rw [zzd h]
theorem y28 {L : List GoalT} {g : GoalT} (h : g ∉ L) : ix (L ++ [g]) g = L.length := by
 unfold ix
 rw [zju (z7g.2 h), if_pos rfl]
 rfl
theorem zl5 (L : List GoalT) (x : GoalT) : ∃ M, addG L x = L ++ M ∧ M.length ≤ 1 := by
 unfold addG
 by_cases h : x ∈ L
 ·rw [if_pos h]; exact ⟨[], by simp, by simp⟩
 ·rw [if_neg h]; exact ⟨[x], rfl, by simp⟩
theorem z9h (l : List GoalT) : ∀ L : List GoalT, ∃ M, addL L l = L ++ M ∧ M.length ≤ l.length := by
 induction l with
 | nil => exact fun L => ⟨[], by simp [addL], by simp⟩
 | cons x l ih =>
  intro L
  obtain ⟨M1, e1, h1⟩ := zl5 L x
  obtain ⟨M2, e2, h2⟩ := ih (addG L x)
  refine ⟨M1 ++ M2, ?_, by simp; omega⟩
  show addL (addG L x) l = _
  rw [e2, e1, List.append_assoc]
theorem zvx {L : List GoalT} {x y : GoalT} : y ∈ addG L x ↔ y ∈ L ∨ y = x := by
 unfold addG
 by_cases h : x ∈ L
 ·rw [if_pos h]
  exact ⟨.inl, fun k => k.elim id fun e => e ▸ h⟩
 ·rw [if_neg h]; simp
theorem z5c {l : List GoalT} : ∀ {L : List GoalT} {y : GoalT}, y ∈ addL L l ↔ y ∈ L ∨ y ∈ l := by
 induction l with
 | nil => intro L y; simp [addL]
 | cons x l ih =>
  intro L y
  show y ∈ addL (addG L x) l ↔ _
  rw [ih, zvx, List.mem_cons, or_assoc]
theorem zmu {L : List GoalT} {x : GoalT} (h : L.Nodup) : (addG L x).Nodup := by
 unfold addG
 by_cases hx : x ∈ L
 ·rw [if_pos hx]; exact h
 ·rw [if_neg hx]
  rw [List.nodup_append]
  exact ⟨h, by simp, fun a ha b hb e => by rw [List.mem_singleton] at hb; subst hb; subst e; exact hx ha⟩
theorem zmt {l : List GoalT} : ∀ {L : List GoalT}, L.Nodup → (addL L l).Nodup := by
 induction l with
 | nil => exact fun h => h
 | cons x l ih => exact fun h => ih (zmu h)
theorem zsf {L l : List GoalT} {x : GoalT} : addL L (l ++ [x]) = addG (addL L l) x := by unfold addL; rw [List.foldl_append]; rfl
theorem zvw {L l m : List GoalT} : addL L (l ++ m) = addL (addL L l) m := by unfold addL; rw [List.foldl_append]
def clA (r : RulesT) (c : Nat) : ClauseT := r.clauses.getD c ⟨[], [], []⟩
noncomputable def z6w (r : RulesT) (g : GoalT) (c : Nat) : List (Nat × List GoalT) := if fitS (clA r c) g then [(c, z2s (clA r c) g)] else []
noncomputable def z25 (r : RulesT) (g : GoalT) (n : Nat) : List (Nat × List GoalT) := (List.range n).flatMap (z6w r g)
theorem z2q {r : RulesT} {g : GoalT} {n : Nat} : z25 r g (n + 1) = z25 r g n ++ z6w r g n := by simp [z25, List.range_succ]
theorem zav {r : RulesT} {g : GoalT} {n : Nat} {p : Nat × List GoalT} : p ∈ z25 r g n ↔ p.1 < n ∧ fitS (clA r p.1) g ∧ p.2 = z2s (clA r p.1) g := by
 unfold z25 z6w
 rw [List.mem_flatMap]
 constructor
 ·rintro ⟨c, hc, h⟩
  by_cases hf : fitS (clA r c) g
  ·rw [if_pos hf, List.mem_singleton] at h
   subst h
   exact ⟨by simpa using hc, hf, rfl⟩
  ·rw [if_neg hf] at h; simp at h
 ·rintro ⟨h1, h2, h3⟩
  refine ⟨p.1, by simpa using h1, ?_⟩
  rw [if_pos h2, ← h3]
  simp
theorem zaw {r : RulesT} {g : GoalT} : ∀ {n : Nat}, (z25 r g n).length ≤ n
 | 0 => by simp [z25]
 | n + 1 => by
  rw [z2q, List.length_append]
  have := zaw (r := r) (g := g) (n := n)
  have h1 : (z6w r g n).length ≤ 1 := by unfold z6w; split <;> simp
  omega
def z29 (l : List (Nat × List GoalT)) : List GoalT := l.flatMap Prod.snd
noncomputable def z0l (r : RulesT) (g : GoalT) : Nat → List GoalT
 | 0 => [g]
 | i + 1 => addL (z0l r g i) (z29 (z25 r ((z0l r g i).getD i ⟨[], []⟩) r.clauses.length))
theorem z4s {r : RulesT} {g : GoalT} {i : Nat} : ∃ M, z0l r g (i + 1) = z0l r g i ++ M := by
 obtain ⟨M, h, _⟩ := z9h (z29 (z25 r ((z0l r g i).getD i ⟨[], []⟩) r.clauses.length)) (z0l r g i)
 exact ⟨M, h⟩
theorem z33 {r : RulesT} {g : GoalT} {i : Nat} : ∀ {j : Nat}, ∃ M, z0l r g (i + j) = z0l r g i ++ M
 | 0 => ⟨[], by simp⟩
 | j + 1 => by
  obtain ⟨M, h⟩ := z33 (i := i) (j := j)
  obtain ⟨M', h'⟩ := z4s (r := r) (g := g) (i := i + j)
  exact ⟨M ++ M', by rw [← Nat.add_assoc, h', h, List.append_assoc]⟩
theorem z48 {r : RulesT} {g : GoalT} : ∀ {i : Nat}, (z0l r g i).Nodup
 | 0 => by simp [z0l]
 | i + 1 => zmt z48
theorem z4r {r : RulesT} {g : GoalT} (h : Rg r g) : ∀ {i : Nat}, (∀ j, j < i → j < (z0l r g j).length) → ∀ x ∈ z0l r g i, Rg r x
 | 0, _, x, hx => by
  simp [z0l] at hx
  exact hx ▸ h
 | i + 1, hi, x, hx => by
  rcases z5c.1 hx with hx | hx
  ·exact z4r h (fun j hj => hi j (by omega)) x hx
  ·obtain ⟨p, hp, hxp⟩ := List.mem_flatMap.1 hx
   obtain ⟨h1, h2, h3⟩ := zav.1 hp
   rw [h3] at hxp
   have hil := hi i (by omega)
   have e : (z0l r g i).getD i ⟨[], []⟩ = (z0l r g i)[i] := by simp [hil]
   rw [e] at h2 hxp
   have hc : clA r p.1 ∈ r.clauses := by
    have : clA r p.1 = r.clauses[p.1] := by simp [clA, h1]
    rw [this]; exact List.getElem_mem h1
   exact zix (z4r h (fun j hj => hi j (by omega)) _ (List.getElem_mem hil)) hc h2 hxp
structure Goals (r : RulesT) (g : GoalT) (L : List GoalT) : Prop where
 eq : L = z0l r g L.length
 lt : ∀ i, i < L.length → i < (z0l r g i).length
 most : L.length ≤ 300
theorem Goals.pre {r : RulesT} {g : GoalT} {L : List GoalT} (h : Goals r g L) {i : Nat} (hi : i ≤ L.length) : ∃ M, L = z0l r g i ++ M := by
 obtain ⟨M, e⟩ := z33 (r := r) (g := g) (i := i) (j := L.length - i)
 refine ⟨M, ?_⟩
 rw [← e, show i + (L.length - i) = L.length by omega]
 exact h.eq
theorem Goals.at_ {r : RulesT} {g : GoalT} {L : List GoalT} (h : Goals r g L) {i : Nat} (hi : i < L.length) : (z0l r g i).getD i ⟨[], []⟩ = L[i] := by
 obtain ⟨M, e⟩ := h.pre (i := i) (by omega)
 have hl := h.lt i hi
 have : L[i] = (z0l r g i)[i] := by simp only [e]; exact List.getElem_append_left hl
 rw [this]
 simp [hl]
theorem Goals.closed {r : RulesT} {g : GoalT} {L : List GoalT} (h : Goals r g L) {i : Nat} (hi : i < L.length) {x : GoalT} {p : Nat × List GoalT} (hp : p ∈ z25 r L[i] r.clauses.length) (hx : x ∈ p.2) : x ∈ L := by
 obtain ⟨M, e⟩ := h.pre (i := i + 1) (by omega)
 rw [e]
 refine List.mem_append_left _ (z5c.2 (.inr (List.mem_flatMap.2 ⟨p, ?_, hx⟩)))
 rw [h.at_ hi]
 exact hp
theorem Goals.found {r : RulesT} {g : GoalT} {L : List GoalT} (h : Goals r g L) : ∀ {i : Nat}, i ≤ L.length → ∀ {j : Nat} (hj : j < (z0l r g i).length), 0 < j → ∃ q, ∃ hq : q < L.length, q < i ∧ q < j ∧ ∃ p ∈ z25 r L[q] r.clauses.length, (z0l r g i)[j] ∈ p.2
 | 0, _, j, hj, h0 => by simp [z0l] at hj; omega
 | i + 1, hi, j, hj, h0 => by
  by_cases hl : j < (z0l r g i).length
  ·obtain ⟨q, hq, a, b, p, hp, hx⟩ := h.found (i := i) (by omega) hl h0
   refine ⟨q, hq, by omega, b, p, hp, ?_⟩
   obtain ⟨M, e⟩ := z4s (r := r) (g := g) (i := i)
   have : (z0l r g (i + 1))[j] = (z0l r g i)[j] := by simp only [e]; exact List.getElem_append_left hl
   rw [this]; exact hx
  ·have hil := h.lt i (by omega)
   have hm := List.getElem_mem hj
   rcases z5c.1 hm with hm' | hm'
   ·exfalso
    obtain ⟨k, hk, e⟩ := List.mem_iff_getElem.1 hm'
    obtain ⟨M, e2⟩ := z4s (r := r) (g := g) (i := i)
    have h3 : (z0l r g (i + 1))[k]'(by rw [e2, List.length_append]; omega) = (z0l r g i)[k] := by simp only [e2]; exact List.getElem_append_left hk
    have hnd := z48 (r := r) (g := g) (i := i + 1)
    exact List.pairwise_iff_getElem.1 hnd k j (by rw [e2, List.length_append]; omega) hj (by omega) (h3.trans e)
   ·obtain ⟨p, hp, hx⟩ := List.mem_flatMap.1 hm'
    rw [h.at_ (by omega)] at hp
    exact ⟨i, by omega, by omega, by omega, p, hp, hx⟩
end Go.Lift.K
namespace Go.Lift.K
open Go Go.Lift Classical
set_option maxRecDepth 100000
structure SpotT where
 owner : Nat
 rank : Int
 next : List Nat
 clause : Nat
def intD (n : Nat) : D := .int .i64 (n : Nat)
def SpotT.d (x : SpotT) : D := .agg [.int .i64 (x.owner : Nat), .int .i64 x.rank, .sl (x.next.map intD), .int .i64 (x.clause : Nat)]
theorem zdy : ∀ x : SpotT, Elt 4 true x.d := fun x => .inl ⟨rfl, _, rfl, rfl, rfl⟩
theorem z9c : ∀ n : Nat, Elt 1 false (intD n) := fun n => zb2
structure Nm where
 g : Nat
 p : Nat
 n : Nat
 m : Nat
 f : Nat
 c : Nat
structure Nm.ok (N : Nm) (n0 : Nat) : Prop where
 lt : N.g < n0 ∧ N.p < n0 ∧ N.n < n0 ∧ N.m < n0 ∧ N.f < n0 ∧ N.c < n0
 g : N.g ≠ N.p ∧ N.g ≠ N.n ∧ N.g ≠ N.m ∧ N.g ≠ N.f ∧ N.g ≠ N.c
 p : N.p ≠ N.n ∧ N.p ≠ N.m ∧ N.p ≠ N.f ∧ N.p ≠ N.c
 n : N.n ≠ N.m ∧ N.n ≠ N.f ∧ N.n ≠ N.c
 m : N.m ≠ N.f ∧ N.m ≠ N.c
 f : N.f ≠ N.c
def gC (r : RulesT) (N : Nm) (gv : V) : List V := [.d (.sl (r.rels.map RelT.d)), .d (.sl (r.clauses.map ClauseT.d)), gv, .nilS, .nilS, .fn 55 [.ptr N.g 0] []]
structure Og1 (r : RulesT) (N : Nm) (gv : V) (L : List GoalT) (es : List (D × V)) (s : List (Nat × Obj)) (nx : Nat) : Prop where
 p : sget s N.p = some (.cells [.ptr N.g 0])
 n : sget s N.n = some (.cells [.map N.m])
 f : sget s N.f = some (.cells [.fn 56 [] [.ptr N.n 0, .ptr N.p 0]])
 g : sget s N.g = some (.cells (gC r N gv))
 m : sget s N.m = some (.map 140 es)
 km : Kmp es L
 hg : GP s false (fun q => ¬ away gv q) 0 2 true gv (L.map GoalT.d)
 ga : away gv N.g ∧ away gv N.p ∧ away gv N.n ∧ away gv N.m ∧ away gv N.f ∧ away gv N.c
 gn : ∀ q, nx ≤ q → away gv q
theorem Og1.step {r : RulesT} {N : Nm} {gv : V} {L : List GoalT} {es : List (D × V)} {s s' : List (Nat × Obj)} {nx nx' n0 : Nat} (h : Og1 r N gv L es s nx) (hN : N.ok n0) (hs : ∀ q, (q < n0 ∨ ¬ away gv q) → q ≠ N.c → sget s' q = sget s q) (hn : nx ≤ nx') : Og1 r N gv L es s' nx' := by
 obtain ⟨h1, h2, h3, h4, h5, h6, h7, h8, h9⟩ := h
 obtain ⟨l1, l2, l3, l4, l5, l6⟩ := hN.lt
 have a1 := hN.g
 have a2 := hN.p
 have a3 := hN.n
 have a4 := hN.m
 have a5 := hN.f
 exact ⟨(hs _ (.inl l2) (by omega)).trans h1, (hs _ (.inl l3) (by omega)).trans h2, (hs _ (.inl l5) (by omega)).trans h3, (hs _ (.inl l1) (by omega)).trans h4, (hs _ (.inl l4) (by omega)).trans h5, h6, h7.frame fun q hq => hs q (.inr hq) (fun e => hq (e ▸ h8.2.2.2.2.2)), h8, fun q hq => h9 q (by omega)⟩
theorem y2f {s : List (Nat × Obj)} {lv : Bool} {S : Nat → Prop} {es : Nat} {ag : Bool} {v : V} {ds : List D} (h : GP s lv S 0 es ag v ds) : GP s lv (fun q => ¬ away v q) 0 es ag v ds := by
 rcases h with h | ⟨k, cs, rfl, h1, h2, h3⟩
 ·exact .inl h
 ·exact .inr ⟨k, cs, rfl, fun e => e rfl, h2, h3.imp fun v d hv => hv⟩
def y4k (r : RulesT) (N : Nm) (gv : V) (L : List GoalT) (x : GoalT) (s0 : List (Nat × Obj)) (nx : Nat) (v : V) (st : St) : Prop :=
 v = .d (.int .i64 (ix (addG L x) x : Nat)) ∧ nx ≤ st.next ∧ (∀ q, q < nx → q ≠ N.m → q ≠ N.g → away gv q → sget st.s q = sget s0 q) ∧
  ∃ gv' es', Og1 r N gv' (addG L x) es' st.s st.next ∧ ∀ q, q < nx → away gv q → away gv' q
theorem zwo {r : RulesT} {N : Nm} {gv : V} {L : List GoalT} {es : List (D × V)} {s : List (Nat × Obj)} {n0 nx lw : Nat} (h : Og1 r N gv L es s nx) (hN : N.ok n0) (hn0 : n0 ≤ nx) {x : GoalT} (hx : Rg r x) (hL : L.length ≤ 1000000) :
  PostV (z06 G (.fn 56 [] [.ptr N.n 0, .ptr N.p 0]) [.d x.d] { s := s, next := nx, low := lw }) (y4k r N gv L x s nx) := by
 obtain ⟨l1, l2, l3, l4, l5, l6⟩ := hN.lt
 have a1 := hN.g
 have a2 := hN.p
 have a3 := hN.n
 have a4 := hN.m
 have a5 := hN.f
 obtain ⟨_, _, _, _, x5, x6, x7, _⟩ := hx.rel
 have hne : ∀ {q j : Nat}, ¬ away gv q → away gv j → q ≠ j := fun h1 h2 e => h1 (e ▸ h2)
 have hb : V.beqL (gC r N gv) (gC r N gv) = true := by
  have := h.hg.beq
  simp [gC, V.beqL, V.beq, this, D.beq_refl]
 obtain ⟨b1, b2, b3, b4, b5, b6⟩ := h.ga
 refine PostV.mono (zys (S := fun q => ¬ away gv q) hx.2 (by omega) (by omega) hL h.km h.n h.m h.p h.g h.hg (fun q hq => ⟨?_, hne hq b3, hne hq b4, hne hq b2, hne hq b1⟩) ⟨by omega, by omega, by omega, by omega⟩ ⟨a3.1, fun e => a2.1 e.symm, fun e => a1.2.1 e.symm, fun e => a2.2.1 e.symm, fun e => a1.2.2.1 e.symm, fun e => a1.1 e.symm⟩ hb) ?_
 ·exact Classical.byContradiction fun e => hq (h.gn q (by omega))
 rintro v st ⟨hn, hf, hR⟩
 have hf' : ∀ q, q < nx → q ≠ N.m → q ≠ N.g → away gv q → sget st.s q = sget s q := fun q g1 g2 g3 g4 => hf q g1 g2 g3 (fun e => e g4)
 rcases hR with ⟨i, hi, rfl, hs⟩ | ⟨hi, rfl, hm, gv', hg, hgp⟩
 ·obtain ⟨_, _, hm⟩ := zjt hi
  have e : addG L x = L := if_pos hm
  refine ⟨by rw [e]; unfold ix; rw [hi]; rfl, hn, hf', gv, es, ?_, fun q _ h => h⟩
  rw [e]
  exact h.step hN (fun q hq hc => hs q (hq.elim (by omega) fun hq => Classical.byContradiction fun e => hq (h.gn q (by omega)))) hn
 ·have hm' := z7g.1 hi
  have e : addG L x = L ++ [x] := if_neg hm'
  have hgk := y2f hgp
  have haw : ∀ q, q < nx → away gv q → away gv' q := fun q g1 g2 => hgp.away (fun hq => hq.elim (fun h => h g2) fun h => by omega)
  refine ⟨by rw [e, y28 hm'], hn, hf', gv', z22 es (keyD x) (.d (.int .i64 (L.length : Nat))), ?_, haw⟩
  rw [e]
  refine ⟨(hf' _ (by omega) (by omega) (by omega) b2).trans h.p, (hf' _ (by omega) (by omega) (by omega) b3).trans h.n, (hf' _ (by omega) (by omega) (by omega) b5).trans h.f, hg, hm, zz6 hx.2 (by omega) h.km hi, hgk, ⟨haw _ (by omega) b1, haw _ (by omega) b2, haw _ (by omega) b3, haw _ (by omega) b4, haw _ (by omega) b5, haw _ (by omega) b6⟩, fun q hq => hgp.away (fun h1 => h1.elim (fun h2 => h2 (h.gn q (by omega))) fun h2 => by omega)⟩
end Go.Lift.K
