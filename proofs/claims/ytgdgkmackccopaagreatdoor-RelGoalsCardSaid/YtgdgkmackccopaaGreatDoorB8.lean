/- Part B8 of the proof. -/
import Derived.Test.YtgdgkmackccopaaGreatDoorB6
import Derived.Test.YtgdgkmackccopaaGreatDoorA7
import Derived.Test.YtgdgkmackccopaaGreatDoorB7
import Derived.Test.YtgdgkmackccopaaGreatDoorB4
set_option linter.all false
namespace Go.Lift.K
open Go Go.Lift Classical
set_option maxRecDepth 100000
def hd (c : ClauseT) (i : Nat) : PatT := c.head.getD i ⟨[], []⟩
def ar (g : GoalT) (i : Nat) : TreeT := g.args.getD i ⟨[], 0⟩
def fitP (p : PatT) (t : TreeT) : Prop := p.name = [] ∨ ((nd t.nodes 0).name = p.name ∧ (nd t.nodes 0).kids.length = p.vars.length)
noncomputable def subP (p : PatT) (t : TreeT) (k : Nat) : TreeT := if p.name = [] then t else subT t (kid t.nodes 0 k)
noncomputable def subE (c : ClauseT) (g : GoalT) (i k : Nat) : List Nat × TreeT := ((hd c i).vars.getD k [], subP (hd c i) (ar g i) k)
noncomputable def bndN (c : ClauseT) (g : GoalT) (n : Nat) : List (List Nat × TreeT) := (List.range n).flatMap fun i => (List.range (hd c i).vars.length).map (subE c g i)
noncomputable def bndA (c : ClauseT) (g : GoalT) (i k : Nat) : List (List Nat × TreeT) := bndN c g i ++ (List.range k).map (subE c g i)
def ze4 (l : List (List Nat × TreeT)) : Prop := ∀ x ∈ l, ∀ y ∈ l, x.1 = y.1 → x.2 = y.2
def fitS (c : ClauseT) (g : GoalT) : Prop := c.rel = g.rel ∧ (∀ i, i < c.head.length → fitP (hd c i) (ar g i)) ∧ ze4 (bndN c g c.head.length)
section
variable {c : ClauseT} {g : GoalT} {i k n : Nat}
theorem zun (h : i < c.head.length) : hd c i = c.head[i] := by simp [hd, h]
theorem y0b (h : i < g.args.length) : ar g i = g.args[i] := by simp [ar, h]
theorem z5u : bndA c g i 0 = bndN c g i := by simp [bndA]
theorem zgi : bndA c g i (k + 1) = bndA c g i k ++ [subE c g i k] := by simp [bndA, List.range_succ]
theorem zba : bndA c g i (hd c i).vars.length = bndN c g (i + 1) := by simp [bndA, bndN, List.range_succ]
theorem z5a {x : List Nat × TreeT} : x ∈ bndN c g n ↔ ∃ i, i < n ∧ ∃ k, k < (hd c i).vars.length ∧ subE c g i k = x := by
 simp [bndN]
theorem zio (hi : i < n) (hk : k < (hd c i).vars.length) : subE c g i k ∈ bndN c g n := z5a.2 ⟨i, hi, k, hk, rfl⟩
theorem zkx {x : List Nat × TreeT} (hi : i < n) (hk : k ≤ (hd c i).vars.length) (h : x ∈ bndA c g i k) : x ∈ bndN c g n := by
 rcases List.mem_append.1 h with h | h
 ·obtain ⟨j, hj, q, hq, e⟩ := z5a.1 h
  exact z5a.2 ⟨j, by omega, q, hq, e⟩
 ·obtain ⟨q, hq, e⟩ := List.mem_map.1 h
  rw [List.mem_range] at hq
  exact z5a.2 ⟨i, hi, q, by omega, e⟩
theorem zyx (hg : Lg g) (hl : i < g.args.length) (hf : fitP (hd c i) (ar g i)) (hk : k < (hd c i).vars.length) : Lst (subE c g i k).2 := by
 have ht := hg _ (List.getElem_mem hl)
 show Lst (subP (hd c i) (ar g i) k)
 rw [y0b hl] at hf ⊢
 unfold subP
 by_cases hn : (hd c i).name = []
 ·rw [if_pos hn]; exact ht
 ·rw [if_neg hn]
  obtain ⟨_, h2⟩ := hf.resolve_left hn
  exact ht.sub (ht.gdt.gd.rt 0 ht.pos _ (z3h (by rw [h2]; exact hk)))
theorem zdf (hg : Lg g) (hl : ∀ i, i < n → i < g.args.length) (hf : ∀ i, i < n → fitP (hd c i) (ar g i)) : ∀ x ∈ bndN c g n, Lst x.2 := by
 intro x hx
 obtain ⟨i, hi, k, hk, rfl⟩ := z5a.1 hx
 exact zyx hg (hl i hi) (hf i hi) hk
theorem ztz (hg : Lg g) (hl : ∀ q, q ≤ i → q < g.args.length) (hf : ∀ q, q ≤ i → fitP (hd c q) (ar g q)) (hk : k ≤ (hd c i).vars.length) : ∀ x ∈ bndA c g i k, Lst x.2 := fun x hx =>
 zdf (n := i + 1) hg (fun q hq => hl q (by omega)) (fun q hq => hf q (by omega)) x (zkx (by omega) hk hx)
theorem zb5 {l : List (List Nat × TreeT)} {y : List Nat × TreeT} (h : ze4 l) (hy : ∀ x ∈ l, x.1 = y.1 → x.2 = y.2) : ze4 (l ++ [y]) := by
 intro a ha b hb e
 rcases List.mem_append.1 ha with h1 | h1 <;> rcases List.mem_append.1 hb with h2 | h2
 ·exact h a h1 b h2 e
 ·rw [List.mem_singleton] at h2; rw [h2] at e ⊢; exact hy a h1 e
 ·rw [List.mem_singleton] at h1; rw [h1] at e ⊢; exact (hy b h2 e.symm).symm
 ·rw [List.mem_singleton] at h1 h2; rw [h1, h2]
end
theorem cvs0 {s : List (Nat × Obj)} {lv : Bool} {S : Nat → Prop} : ∀ {cs : List V} {ds : List D}, CVs (CQ s lv S 0) cs ds → cs = ds.map V.d
 | [], [], _ => rfl
 | [], _ :: _, h => h.elim
 | _ :: _, [], h => h.elim
 | v :: cs, d :: ds, h => by
  obtain ⟨h1, h2⟩ := h
  rw [cvs0 h2]
  obtain ⟨rfl, _⟩ := h1
  rfl
end Go.Lift.K
namespace Go.Lift.K
open Go Go.Lift Classical
set_option maxRecDepth 100000
noncomputable def look (A : List (List Nat × TreeT)) (v : List Nat) : TreeT := match A.find? (fun x => decide (x.1 = v)) with
 | some x => x.2
 | none => ⟨[], 0⟩
noncomputable def zbd (A : List (List Nat × TreeT)) (p : PatT) : GoalT := ⟨p.name, p.vars.map (look A)⟩
noncomputable def z2s (c : ClauseT) (g : GoalT) : List GoalT := c.body.map (zbd (bndN c g c.head.length))
end Go.Lift.K
namespace Go.Lift.K
open Go Go.Lift Classical
set_option maxRecDepth 100000
def Mt (es : List (D × V)) (A : List (List Nat × TreeT)) : Prop := ∀ v : List Nat, z1s es (.str v) = if (∃ x ∈ A, x.1 = v) then some (.d (look A v).d) else none
theorem y1s : Mt [] [] := fun v => by simp [z1s]
theorem z96 {A : List (List Nat × TreeT)} (hc : ze4 A) {x : List Nat × TreeT} (hx : x ∈ A) : look A x.1 = x.2 := by
 unfold look
 cases hf : A.find? (fun y => decide (y.1 = x.1)) with
 | none =>
  rw [List.find?_eq_none] at hf
  have := hf x hx
  simp at this
 | some y =>
  have h1 := List.mem_of_find?_eq_some hf
  have h2 := List.find?_some hf
  simp at h2
  exact hc y h1 x hx h2
theorem zpo {A : List (List Nat × TreeT)} {y : List Nat × TreeT} {v : List Nat} (h : ∃ x ∈ A, x.1 = v) : look (A ++ [y]) v = look A v := by
 obtain ⟨x, hx, hv⟩ := h
 unfold look
 rw [List.find?_append]
 cases hf : A.find? (fun y => decide (y.1 = v)) with
 | none =>
  rw [List.find?_eq_none] at hf
  have := hf x hx
  simp [hv] at this
 | some y => rfl
theorem zwl {es : List (D × V)} {A : List (List Nat × TreeT)} {v : List Nat} {t : TreeT} (h : Mt es A) (hc : ze4 A) (hy : ∀ x ∈ A, x.1 = v → x.2 = t) : Mt (z22 es (.str v) (.d t.d)) (A ++ [(v, t)]) := fun w => by
 have hc' : ze4 (A ++ [(v, t)]) := zb5 hc (fun x hx e => hy x hx e)
 have hl : look (A ++ [(v, t)]) v = t := z96 hc' (x := (v, t)) (by simp)
 rw [z4n, h w]
 have hb : D.beq (.str v) (.str w) = decide (v = w) := by simp [D.beq]
 rw [hb]
 by_cases e : v = w
 ·subst e
  rw [if_pos (by simp), if_pos ⟨(v, t), by simp, rfl⟩, hl]
 ·rw [if_neg (by simpa using e)]
  by_cases hx : ∃ x ∈ A, x.1 = w
  ·rw [if_pos hx, if_pos (by obtain ⟨x, h1, h2⟩ := hx; exact ⟨x, List.mem_append_left _ h1, h2⟩), zpo hx]
  ·rw [if_neg hx, if_neg]
   rintro ⟨x, h1, h2⟩
   rcases List.mem_append.1 h1 with h1 | h1
   ·exact hx ⟨x, h1, h2⟩
   ·rw [List.mem_singleton] at h1; subst h1; exact e h2
theorem zpk {a b : TreeT} (ha : Lst a) (hb : Lst b) : z4x a b = decide (a = b) := by
 rw [Bool.eq_iff_iff, zbg, decide_eq_true_eq, ha.fix, hb.fix]
 exact ⟨fun h => h.2.2, fun h => ⟨ha.gdt.spec, hb.gdt.spec, h⟩⟩
def y0j (s0 : List (Nat × Obj)) (nx km : Nat) (es : List (D × V)) (A : List (List Nat × TreeT)) (v : List Nat) (u : TreeT) (r : V) (st : St) : Prop :=
 nx ≤ st.next ∧ (∀ q, q < nx → q ≠ km → sget st.s q = sget s0 q) ∧ sget st.s km = some (.map 9 (z22 es (.str v) (.d u.d))) ∧ r = .d (.bool (decide (∀ x ∈ A, x.1 = v → x.2 = u)))
theorem zs2 {t : TreeT} (ht : Ok t) (htk : t.ok) {v : List Nat} (hv : v.length ≤ 8) {A : List (List Nat × TreeT)} (hA : ∀ x ∈ A, Lst x.2) (hc : ze4 A) {es : List (D × V)} (hm : Mt es A)
  {kz km : Nat} {s : List (Nat × Obj)} {nx lw : Nat} (hkz : kz < nx) (hkm : km < nx) (hne : kz ≠ km) (h1 : sget s kz = some (.cells [.map km])) (h2 : sget s km = some (.map 9 es)) :
  PostV (z06 G (.fn 42 [] [.ptr kz 0]) [.d (.str v), .d t.d] { s := s, next := nx, low := lw }) (y0j s nx km es A v (z2c t)) := by
 have hL := fun st => zjn htk ht.spec st
 have hu := zfm ht htk
 obtain ⟨u, hue⟩ : ∃ u, u = z2c t := ⟨_, rfl⟩
 rw [← hue] at hL hu ⊢
 simp only [TreeT.d] at hL
 have hx0 : ∀ a b : V, [a, b][0]? = some a := fun _ _ => rfl
 have hx1 : ∀ a b : V, [a, b][1]? = some b := fun _ _ => rfl
 have hcf : z2g false [.s] (.str v) = true := by simp [z2g, conf, z7q]; omega
 have hget := hm v
 have hU := fun z nx lw zz (h : sget z km = some (.map 9 es)) => z4m (s := z) (nx := nx) (lw := lw) (x := zz) hcf h
 have w_z0 : (nx = kz) = False ∧ (nx = km) = False ∧ (∀ q, (nx + q = kz) = False) ∧ (∀ q, (nx + q = km) = False) ∧ (km = kz) = False := ⟨by simp; omega, by simp; omega, fun q => by simp; omega, fun q => by simp; omega, by simp; omega⟩
 have w_h1 := h1
 have w_h2 := h2
 have w_h3 : ∀ o, sget (sset s km o) km = some o := fun o => z04 h2
 by_cases ho : ∃ x ∈ A, x.1 = v
 ·rw [if_pos ho] at hget
  have hlk := fun z nx lw zero (h : sget z km = some (.map 9 es)) => z6s (s := z) (nx := nx) (lw := lw) (zero := zero) hcf h hget
  have hl : Lst (look A v) := by
   obtain ⟨x, hx, hv⟩ := ho
   rw [← hv, z96 hc hx]
   exact hA x hx
  have hAl := fun st => zl4 hl.tok hu.tok st
  have hde : decide (∀ x ∈ A, x.1 = v → x.2 = u) = decide (look A v = u) := by
   obtain ⟨x, hx, hv⟩ := ho
   rw [← hv, z96 hc hx]
   rw [Bool.eq_iff_iff, decide_eq_true_eq, decide_eq_true_eq]
   exact ⟨fun h => h x hx rfl, fun h y hy e => (hc y hy x hx e).trans h⟩
  rw [zpk hl hu] at hAl
  simp only [TreeT.d] at hAl hlk
  unfold y0j
  rw [hde]
  refine z1k (first := []) (args := [.d (.str v), .d t.d]) (cap := [.ptr kz 0]) T1.g42 rfl rfl rfl (fun e w_len harg => ?_)
  have w_len : e.length = 33 := w_len
  have w_0 : e.getD 0 .undef = .d (.str v) := harg 0 (by simp)
  have w_1 : e.getD 1 .undef = .d t.d := harg 1 (by simp)
  have w_2 : e.getD 2 .undef = .ptr kz 0 := harg 2 (by simp)
  clear harg
  simp only [T1.i42, TreeT.d, hL, hx0, hx1, hlk, hU, hAl, w_len, w_0, w_1, w_2, w_z0, w_h1, w_h2, w_h3, ↓LA, LB, simprocAttr]
  exact ⟨by omega, fun q g1 g2 => by rw [if_neg (by omega), if_neg (by omega)]; exact z03 (by omega)⟩
 ·rw [if_neg ho] at hget
  have hlk := fun z nx lw zero (h : sget z km = some (.map 9 es)) => z6t (s := z) (nx := nx) (lw := lw) (zero := zero) hcf h hget
  have hde : decide (∀ x ∈ A, x.1 = v → x.2 = u) = true := decide_eq_true fun x hx e => absurd ⟨x, hx, e⟩ ho
  unfold y0j
  rw [hde]
  refine z1k (first := []) (args := [.d (.str v), .d t.d]) (cap := [.ptr kz 0]) T1.g42 rfl rfl rfl (fun e w_len harg => ?_)
  have w_len : e.length = 33 := w_len
  have w_0 : e.getD 0 .undef = .d (.str v) := harg 0 (by simp)
  have w_1 : e.getD 1 .undef = .d t.d := harg 1 (by simp)
  have w_2 : e.getD 2 .undef = .ptr kz 0 := harg 2 (by simp)
  clear harg
  have hca : cellsV (.agg [.nilS, .d (.int .i64 0)]) = [.nilS, .d (.int .i64 0)] := rfl
  simp only [T1.i42, TreeT.d, hL, hx0, hx1, hlk, hU, hca, w_len, w_0, w_1, w_2, w_z0, w_h1, w_h2, w_h3, ↓LA, LB, simprocAttr]
  exact ⟨by omega, fun q g1 g2 => by rw [if_neg (by omega), if_neg (by omega)]; exact z03 (by omega)⟩
end Go.Lift.K
namespace Go.Lift.K
open Go Go.Lift Classical
set_option maxRecDepth 100000
theorem zm3 {G : Nat → Option IFun} {f : Nat} {F : IFun} (hG : G f = some F) (hp : F.pure = true) (hn : F.nil2 = false) {v y : V} {d : D} {rs : List D} {st st' : St} (hs : snap st.s 0 z09 v = some d) (hz : frz z09 st v = some (y, st')) (hy : snap [] 0 z09 y = some d)
  (hf : rs.all D.flat = false)
  (h : z06 G (.fn f [] []) [.d d] { s := [], next := 0, low := 0 } = some (tupV (rs.map V.d), { s := [], next := 0, low := 0 })) :
  z06 G (.fn f [] []) [v] st = some (tupV (rs.map V.d), st') := by
 have ha : z0p st.s 0 [v] = some [d] := by simp [z0p, hs]
 have hfz : frzL (frz z09) st [v] = some ([y], st') := by simp [frzL, hz]
 have hyy : z0p [] 0 [y] = some [d] := by simp [z0p, hy]
 have hdd : z0p [] 0 [V.d d] = some [d] := z17 [d]
 have hdf : frzL (frz z09) { s := [], next := 0, low := 0 } [V.d d] = some ([V.d d], { s := [], next := 0, low := 0 }) := z37 (ds := [d])
 rw [z1l] at h ⊢
 simp only [z13, hG, hp, hn, List.nil_append, List.append_nil, Bool.false_and, Bool.false_eq_true, if_false, if_true, hdd, ha, hfz, hdf, hyy] at h ⊢
 cases hb : z4h G F ([d].map V.d) { s := [], next := 0, low := 0 } with
 | none => rw [hb] at h; simp at h
 | some p =>
  obtain ⟨vs, st1⟩ := p
  rw [hb] at h
  simp only at h ⊢
  cases hr' : z0p st1.s 0 vs with
  | none => rw [hr'] at h; simp at h
  | some rs' =>
   rw [hr'] at h
   simp only [D.beqL_refl, if_true, ite_self, Option.some.injEq, Prod.mk.injEq, and_true] at h
   have e := zcs h
   subst e
   simp only [hf, Bool.false_eq_true, if_false, D.beqL_refl, if_true]
theorem zqo {m : Nat} {s : List (Nat × Obj)} {nx lw k es : Nat} {ag : Bool} {l : List D} (h0 : 0 < es) (he : ∀ x ∈ l, Elt es ag x) (ho : sget s k = some (.cells ((l.flatMap cellsD).map V.d))) :
  frz (m + 2) { s := s, next := nx, low := lw } (.arr k es ag 0 l.length) = some (.d (.sl l), { s := sset s k (.fz (l.flatMap cellsD)), next := nx, low := Nat.min lw k }) := by
 obtain ⟨h1, h2⟩ := z27 he
 simp only [frz, St.get, ho]
 rw [if_pos ⟨h0, by simp only [List.length_map]; omega⟩]
 simp only [zqs, znf, h1, if_true, ho]
 have : z4u es ag l.length (((l.flatMap cellsD).drop 0).take (l.length * es)) = some l := by
  rw [List.drop_zero, List.take_of_length_le (by omega)]
  exact z2r h0 he
 rw [this]
 rfl
theorem zup {n : Nat} {st st' : St} {a : D} {xa y : V} (h : frz (n + 1) st xa = some (y, st')) : frz (n + 2) st (.agg [.d a, xa]) = some (mkAgg [.d a, y], st') := by
 have h1 : frzL (frz (n + 1)) st [.d a, xa] = some ([.d a, y], st') := by
  have e : frz (n + 1) st (.d a) = some (.d a, st) := rfl
  simp only [frzL]
  rw [e]
  simp only [h]
 have e : frz (n + 2) st (.agg [.d a, xa]) = (match frzL (frz (n + 1)) st [.d a, xa] with | none => none | some (ys, st') => some (mkAgg ys, st')) := rfl
 rw [e, h1]
theorem zm7 {n : List Nat} {l : List TreeT} (hl : l.length ≤ 1000000) (hk : Og ⟨n, l⟩) {s : List (Nat × Obj)} {lo hi nx lw : Nat} {xa : V} (h : Gr s false lo 0 hi 2 true xa (l.map TreeT.d)) :
  PostV (z06 G (.fn 26 [] []) [mkAgg [.d (.str n), xa]] { s := s, next := nx, low := lw }) (fun v st => v = .d (z1i ⟨n, l⟩).d ∧ st.next = nx ∧ ∀ q, (q < lo ∨ hi ≤ q) → sget st.s q = sget s q) := by
 have hL := za5 (g := ⟨n, l⟩) hl hk { s := [], next := 0, low := 0 }
 have hs : snap s 0 z09 (mkAgg [.d (.str n), xa]) = some (GoalT.d ⟨n, l⟩) := znp (lv := false) (lo := lo) (n := 1) (hi := hi) (m := 11) (by omega) (by decide) ⟨CV.str, h.cv (by omega) (z0j fun a => z2n), trivial⟩
 cases l with
 | nil => exact ⟨_, _, z4o (args := [mkAgg [.d (.str n), xa]]) (ds := [GoalT.d ⟨n, []⟩]) (rs := [(z1i ⟨n, []⟩).d]) T1.g26 rfl rfl (by simp [z0p, hs]) rfl hL, rfl, rfl, fun _ _ => rfl⟩
 | cons t l =>
 rcases h with ⟨rfl, hn⟩ | ⟨k, cs, rfl, hS, hg, hc⟩
 ·simp at hn
 ·have e := cvs0 hc
  subst e
  refine ⟨_, _, zm3 (rs := [(z1i ⟨n, t :: l⟩).d]) T1.g26 rfl rfl hs (y := .d (GoalT.d ⟨n, t :: l⟩)) (st' := { s := sset s k (.fz (((t :: l).map TreeT.d).flatMap cellsD)), next := nx, low := Nat.min lw k }) ?_ rfl rfl hL, rfl, rfl, fun q hq => z03 (by have := hS.1; have := hS.2; omega)⟩
  have hfz := zqo (m := 9) (s := s) (nx := nx) (lw := lw) (k := k) (ag := true) (l := (t :: l).map TreeT.d) (by omega : 0 < 2) (z0j fun a => z2n) hg
  exact zup hfz
end Go.Lift.K
namespace Go.Lift.K
open Go Go.Lift Classical
set_option maxRecDepth 100000
noncomputable def z6h (c : ClauseT) (g : GoalT) : List D := if fitS c g then [.sl ((z2s c g).map GoalT.d), .bool true] else [.sl [], .bool false]
theorem zp6 {c : ClauseT} {g : GoalT} {i k : Nat} (hi : i < c.head.length) (hk : k < (hd c i).vars.length) (h : ¬ ∀ x ∈ bndA c g i k, x.1 = (subE c g i k).1 → x.2 = (subE c g i k).2) : z6h c g = [.sl [], .bool false] := by
 refine if_neg fun hf => h fun x hx e => hf.2.2 x (zkx hi (by omega) hx) _ (zio hi hk) e
theorem z4l {s : List (Nat × Obj)} {c : ClauseT} {g : GoalT} (h : z6h c g = [.sl [], .bool false]) : RQ (some [.nilS, .d (.bool false)]) s (z6h c g) :=
 rql2 (x := .sl []) (y := .bool false) (by simp [snap, z09]) znq h.symm
set_option maxHeartbeats 2000000 in
theorem zfg {c : ClauseT} {g : GoalT} (hg : Lg g) (hgk : g.args.length ≤ 1000) (hch : c.head.length ≤ 1000) (hch2 : c.rel = g.rel → c.head.length = g.args.length) (hcv : ∀ p ∈ c.head, p.vars.length ≤ 4 ∧ (p.name = [] → p.vars.length = 1) ∧ ∀ v ∈ p.vars, v.length ≤ 8)
  (hb : c.body.length ≤ 1000) (hbv : ∀ p ∈ c.body, p.vars.length ≤ 1000) (hth : ∀ p ∈ c.body, ∀ v ∈ p.vars, ∃ x ∈ bndN c g c.head.length, x.1 = v) (st : St) :
  z06 G (.fn 25 [] []) [.d c.d, .d g.d] st = some (tupV ((z6h c g).map V.d), st) := by
 have hal : g.args.length ≤ 1000000 := by omega
 refine z15 (ds := [c.d, g.d]) (rs := z6h c g) T1.g25 rfl rfl (fun e w_len harg => ?_) st
 have w_len : e.length = 126 := w_len
 have w_0 := harg 0 (by simp)
 have w_1 := harg 1 (by simp)
 clear harg
 simp only [List.map_cons, List.map_nil, List.getD_cons_zero, List.getD_cons_succ] at w_0 w_1
 by_cases hr : c.rel = g.rel
 ·have hlen := hch2 hr
  have hrr := eq_true hr
  have hcm : cellsV (.map 9) = [.map 9] := rfl
  have hcm2 : (V.map 9).isCell = true := rfl
  have hbp : ∀ (n : Nat) (st : St), bndA c g n 0 = bndN c g n := fun _ _ => z5u
  simp only [T1.i25, ClauseT.d, GoalT.d, hrr, hcm, hcm2, w_len, w_0, w_1, ↓LA, LB, simprocAttr]
  refine z0e (fun e0 s0 m env st => ∃ (i nxi lwi : Nat) (si : List (Nat × Obj)) (es : List (D × V)), m = c.head.length - i ∧ (i ≤ c.head.length) ∧ (Mt es (bndN c g i)) ∧ (ze4 (bndN c g i)) ∧ (∀ q, q < i → fitP (hd c q) (ar g q)) ∧ sget si (0) = some (.cells [.d (.str c.rel), .d (.sl (c.head.map PatT.d)), .d (.sl (c.body.map PatT.d))]) ∧ sget si (1) = some (.cells [.d (.str g.rel), .d (.sl (g.args.map TreeT.d))]) ∧ sget si (10) = some (.cells [.map 9]) ∧ sget si (9) = some (.map 9 es) ∧ 18 ≤ nxi ∧ 0 ≤ lwi ∧ env.length = 126 ∧ env.getD 30 .undef = .d (.int .i64 i) ∧ env.getD 2 .undef = .ptr 0 0 ∧ env.getD 3 .undef = .ptr 1 0 ∧ env.getD 6 .undef = .ptr 10 0 ∧ env.getD 7 .undef = .fn 42 [] [.ptr 10 0] ∧ env.getD 28 .undef = .d (.sl (c.head.map PatT.d)) ∧ env.getD 29 .undef = .d (.int .i64 c.head.length) ∧ st = { s := si, next := nxi, low := lwi }) ?_ (c.head.length) (by refine ⟨0, _, _, _, [], rfl, by omega, y1s, (by intro x hx; simp [bndN] at hx), fun q h => by omega, ?_, ?_, ?_, ?_, (by omega), Nat.zero_le _, ?_, ?_, ?_, ?_, ?_, ?_, ?_, ?_, rfl⟩ <;> simp only [w_len, LB, simprocAttr])
  rintro m env st ⟨i, nxi, lwi, si, es, hm, a_0, a_1, a_2, a_3, w_ac0, w_ac1, w_ac2, w_ac3, w_ab, w_alo, w_len, w_30, w_2, w_3, w_6, w_7, w_28, w_29, rfl⟩
  have w_aN := aI (cf1 (x := nxi) (a := 0) (by omega)) (aI (cf1 (x := nxi) (a := 1) (by omega)) (aI (cf1 (x := nxi) (a := 10) (by omega)) (cf1 (x := nxi) (a := 9) (by omega))))
  have w_aS := aI (cf2 (x := nxi) (by omega) w_ac0) (aI (cf2 (x := nxi) (by omega) w_ac1) (aI (cf2 (x := nxi) (by omega) w_ac2) (cf2 (x := nxi) (by omega) w_ac3)))
  have w_aZ := zf0 (x := nxi) (n := 18) (by omega)
  by_cases hi : i < c.head.length
  ·have hi2 : i < g.args.length := by omega
   obtain ⟨hpv, hp1, hpl⟩ := hcv _ (List.getElem_mem hi)
   have hT := hg _ (List.getElem_mem hi2)
   have hhd : hd c i = c.head[i] := zun hi
   have har : ar g i = g.args[i] := y0b hi2
   obtain ⟨p, hp⟩ : ∃ p, p = c.head[i] := ⟨_, rfl⟩
   obtain ⟨t, ht⟩ : ∃ t, t = g.args[i] := ⟨_, rfl⟩
   have hip := z4q hi
   have hit := z4p hi2
   rw [← hp] at hpv hp1 hpl hhd hip
   rw [← ht] at hT har hit
   have ht0 := hT.root
   have h0 := hT.pos
   have hin : z0a 2 (.d (.sl (t.nodes.map NodeT.d))) 0 = some (.dptr [.str t.nodes[0].name, .sl (t.nodes[0].kids.map (D.int .i64))]) := z32 (i := 0) h0
   have hA : ∀ x ∈ bndN c g i, Lst x.2 := zdf hg (fun q hq => by omega) a_3
   by_cases hnm : p.name = []
   ·have hv1 := hp1 hnm
    have hv0 : 0 < p.vars.length := by omega
    have hiv : z0a 1 (.d (.sl (p.vars.map D.str))) 0 = some (.dptr [.str p.vars[0]]) := zan (i := 0) hv0
    have hse : subE c g i 0 = (p.vars[0], t) := by
     unfold subE subP
     rw [hhd, har, if_pos hnm, List.getD_eq_getElem?_getD, List.getElem?_eq_getElem hv0]
     rfl
    have hnm' := eq_true hnm
    have hte : (⟨t.nodes, 0⟩ : TreeT) = t := by cases t; simp at ht0; rw [ht0]
    have hbn : bndN c g (i + 1) = bndN c g i ++ [(p.vars[0], t)] := by rw [← zba, hhd, hv1, zgi, z5u, hse]
    simp only [hi, hip, hit, ht0, hin, hnm', hiv, w_len, w_30, w_3, w_7, w_28, w_29, w_ac1, w_aN, ↓LA, LB, simprocAttr]
    refine z0s (zs2 (t := ⟨t.nodes, 0⟩) (by rw [hte]; exact hT.gdt) (by rw [hte]; exact hT.tok) (v := p.vars[0]) (hpl _ (List.getElem_mem hv0)) hA a_2 a_1 (kz := 10) (km := 9) (by omega) (by omega) (by omega) (by simp (disch := omega) only [z00]; exact w_ac2) (by simp (disch := omega) only [z00]; exact w_ac3)) fun r st hR => ?_
    obtain ⟨s1, n1, l1⟩ := st
    obtain ⟨hn1, hf1, hm1, rfl⟩ := hR
    have hn1 : nxi + 33 ≤ n1 := hn1
    rw [hte, hT.fix] at hm1 ⊢
    have hf2 : ∀ q, q < nxi → q ≠ 9 → sget s1 q = sget si q := fun q g1 g2 => (hf1 q (by omega) g2).trans (by simp (disch := omega) only [z00])
    have w_y0 := (hf2 0 (by omega) (by omega)).trans w_ac0
    have w_y1 := (hf2 1 (by omega) (by omega)).trans w_ac1
    have w_y2 := (hf2 10 (by omega) (by omega)).trans w_ac2
    have w_y3 : sget s1 9 = _ := hm1
    by_cases hcn : ∀ x ∈ bndN c g i, x.1 = p.vars[0] → x.2 = t
    ·have hdc := decide_eq_true hcn
     simp only [hdc, z08 hi (by omega), w_len, w_30, ↓LA, LB, simprocAttr]
     exact z0c (by refine ⟨_, by omega, i + 1, _, _, _, _, rfl, by omega, (by rw [hbn]; exact zwl a_1 a_2 hcn), (by rw [hbn]; exact zb5 a_2 hcn), (fun q hq => if e : q = i then (by subst e; rw [hhd]; exact .inl hnm) else a_3 q (by omega)), ?_, ?_, ?_, ?_, (by omega), Nat.zero_le _, ?_, ?_, ?_, ?_, ?_, ?_, ?_, ?_, rfl⟩ <;> simp only [w_len, w_2, w_3, w_6, w_7, w_28, w_29, w_y0, w_y1, w_y2, w_y3, LB, simprocAttr])
    ·have hdc := decide_eq_false hcn
     simp only [hdc, w_len, ↓LA, LB, simprocAttr]
     refine z4l (zp6 (i := i) (k := 0) hi (by rw [hhd]; exact hv0) ?_)
     rw [z5u, hse]
     exact hcn
   ·by_cases hn2 : p.name = t.nodes[0].name
    ·by_cases hl2 : p.vars.length = t.nodes[0].kids.length
     ·have hn2' := eq_true hn2
      have hnm2 : (t.nodes[0].name = []) = False := eq_false (by rw [← hn2]; exact hnm)
      have hfi : fitP (hd c i) (ar g i) := by rw [hhd, har]; exact .inr ⟨by rw [z2j h0]; exact hn2.symm, by rw [z2j h0]; exact hl2.symm⟩
      have hfa : ∀ q, q < i + 1 → fitP (hd c q) (ar g q) := fun q hq => if e : q = i then (by subst e; exact hfi) else a_3 q (by omega)
      simp only [hi, hip, hit, ht0, hin, hnm, hn2', ceq hl2, List.length_map, w_len, w_30, w_3, w_28, w_29, w_ac1, w_aN, ↓LA, LB, simprocAttr]
      refine z0e (fun e0 s0 m env st => ∃ (k nxk lwk : Nat) (sk : List (Nat × Obj)) (fs : List (D × V)), m = p.vars.length - k ∧ (k ≤ p.vars.length) ∧ (Mt fs (bndA c g i k)) ∧ (ze4 (bndA c g i k)) ∧ sget sk (0) = some (.cells [.d (.str c.rel), .d (.sl (c.head.map PatT.d)), .d (.sl (c.body.map PatT.d))]) ∧ sget sk (1) = some (.cells [.d (.str g.rel), .d (.sl (g.args.map TreeT.d))]) ∧ sget sk (10) = some (.cells [.map 9]) ∧ sget sk (9) = some (.map 9 fs) ∧ sget sk (nxi + 12) = some (.cells [.d (.sl (t.nodes.map NodeT.d)), .d (.int .i64 0)]) ∧ sget sk (nxi + 20) = some (.cells [.d (.str t.nodes[0].name), .d (.sl (t.nodes[0].kids.map (D.int .i64)))]) ∧ nxi + 22 ≤ nxk ∧ 0 ≤ lwk ∧ env.length = 126 ∧ env.getD 74 .undef = .d (.int .i64 k) ∧ env.getD 2 .undef = .ptr 0 0 ∧ env.getD 3 .undef = .ptr 1 0 ∧ env.getD 6 .undef = .ptr 10 0 ∧ env.getD 7 .undef = .fn 42 [] [.ptr 10 0] ∧ env.getD 28 .undef = .d (.sl (c.head.map PatT.d)) ∧ env.getD 29 .undef = .d (.int .i64 c.head.length) ∧ env.getD 30 .undef = .d (.int .i64 i) ∧ env.getD 10 .undef = .ptr (nxi + 12) 0 ∧ env.getD 11 .undef = .ptr (nxi + 20) 0 ∧ env.getD 72 .undef = .d (.sl (p.vars.map D.str)) ∧ env.getD 73 .undef = .d (.int .i64 p.vars.length) ∧ st = { s := sk, next := nxk, low := lwk }) ?_ (p.vars.length) (by refine ⟨0, _, _, _, es, rfl, by omega, (by rw [z5u]; exact a_1), (by rw [z5u]; exact a_2), ?_, ?_, ?_, ?_, ?_, ?_, (by omega), Nat.zero_le _, ?_, ?_, ?_, ?_, ?_, ?_, ?_, ?_, ?_, ?_, ?_, ?_, ?_, rfl⟩ <;> simp only [w_len, w_30, w_2, w_3, w_6, w_7, w_28, w_29, w_ac0, w_ac1, w_ac2, w_ac3, w_aN, LB, simprocAttr])
      rintro m env st ⟨k, nxk, lwk, sk, fs, hm, b_0, b_1, b_2, w_bc0, w_bc1, w_bc2, w_bc3, w_bc4, w_bc5, w_bb, w_blo, w_len, w_74, w_2, w_3, w_6, w_7, w_28, w_29, w_30, w_10, w_11, w_72, w_73, rfl⟩
      have w_bN := aI (cf1 (x := nxk) (a := 0) (by omega)) (aI (cf1 (x := nxk) (a := 1) (by omega)) (aI (cf1 (x := nxk) (a := 10) (by omega)) (aI (cf1 (x := nxk) (a := 9) (by omega)) (aI (cf1 (x := nxk) (a := nxi + 12) (by omega)) (cf1 (x := nxk) (a := nxi + 20) (by omega))))))
      have w_bS := aI (cf2 (x := nxk) (by omega) w_bc0) (aI (cf2 (x := nxk) (by omega) w_bc1) (aI (cf2 (x := nxk) (by omega) w_bc2) (aI (cf2 (x := nxk) (by omega) w_bc3) (aI (cf2 (x := nxk) (by omega) w_bc4) (cf2 (x := nxk) (by omega) w_bc5)))))
      have w_bZ := aI (zf (x := nxk) (b := nxi) (n := 22) (by omega) (by omega)) (zf0 (x := nxk) (n := 18) (by omega))
      by_cases hk : k < p.vars.length
      ·have hk2 : k < t.nodes[0].kids.length := by omega
       obtain ⟨hke, hkn⟩ := hT.gdt.gd.at_ h0 hk2
       obtain ⟨ok1, ok2, hls⟩ := hT.at_ hkn
       have hse : subE c g i k = (p.vars[k], subT t (kid t.nodes 0 k)) := by
        unfold subE subP
        rw [hhd, har, if_neg hnm, List.getD_eq_getElem?_getD, List.getElem?_eq_getElem hk]
        rfl
       have hbn : bndA c g i (k + 1) = bndA c g i k ++ [(p.vars[k], subT t (kid t.nodes 0 k))] := by rw [zgi, hse]
       have hA2 : ∀ x ∈ bndA c g i k, Lst x.2 := ztz hg (fun q hq => by omega) (fun q hq => hfa q (by omega)) (by rw [hhd]; omega)
       simp only [hk, zan hk, z3c hk2, hke, w_len, w_74, w_7, w_10, w_11, w_72, w_73, w_bc4, w_bc5, ↓LA, LB, simprocAttr]
       refine z0s (zs2 (t := ⟨t.nodes, (kid t.nodes 0 k : Nat)⟩) ok1 ok2 (v := p.vars[k]) (hpl _ (List.getElem_mem hk)) hA2 b_2 b_1 (kz := 10) (km := 9) (by omega) (by omega) (by omega) w_bc2 w_bc3) fun r st hR => ?_
       obtain ⟨s1, n1, l1⟩ := st
       obtain ⟨hn1, hf1, hm1, rfl⟩ := hR
       have hn1 : nxk + 18 ≤ n1 := hn1
       rw [hls] at hm1 ⊢
       have hf2 : ∀ q, q < nxk → q ≠ 9 → sget s1 q = sget sk q := fun q g1 g2 => hf1 q (by omega) g2
       have w_y0 := (hf2 0 (by omega) (by omega)).trans w_bc0
       have w_y1 := (hf2 1 (by omega) (by omega)).trans w_bc1
       have w_y2 := (hf2 10 (by omega) (by omega)).trans w_bc2
       have w_y3 : sget s1 9 = _ := hm1
       have w_y4 := (hf2 (nxi + 12) (by omega) (by omega)).trans w_bc4
       have w_y5 := (hf2 (nxi + 20) (by omega) (by omega)).trans w_bc5
       by_cases hcn : ∀ x ∈ bndA c g i k, x.1 = p.vars[k] → x.2 = subT t (kid t.nodes 0 k)
       ·have hdc := decide_eq_true hcn
        simp only [hdc, z08 hk (by omega), w_len, w_74, ↓LA, LB, simprocAttr]
        exact z0c (by refine ⟨_, by omega, k + 1, _, _, _, _, rfl, by omega, (by rw [hbn]; exact zwl b_1 b_2 hcn), (by rw [hbn]; exact zb5 b_2 hcn), ?_, ?_, ?_, ?_, ?_, ?_, (by omega), Nat.zero_le _, ?_, ?_, ?_, ?_, ?_, ?_, ?_, ?_, ?_, ?_, ?_, ?_, ?_, rfl⟩ <;> simp only [w_len, w_2, w_3, w_6, w_7, w_28, w_29, w_30, w_10, w_11, w_72, w_73, w_y0, w_y1, w_y2, w_y3, w_y4, w_y5, LB, simprocAttr])
       ·have hdc := decide_eq_false hcn
        simp only [hdc, w_len, ↓LA, LB, simprocAttr]
        refine z4l (zp6 (i := i) (k := k) hi (by rw [hhd]; exact hk) ?_)
        rw [hse]
        exact hcn
      ·have hke : k = (hd c i).vars.length := by rw [hhd]; omega
       simp only [hk, z08 hi (by omega), w_len, w_74, w_30, w_73, ↓LA, LB, simprocAttr]
       exact z0c (by refine ⟨_, by omega, i + 1, _, _, _, fs, rfl, by omega, (by rw [← zba, ← hke]; exact b_1), (by rw [← zba, ← hke]; exact b_2), hfa, ?_, ?_, ?_, ?_, (by omega), Nat.zero_le _, ?_, ?_, ?_, ?_, ?_, ?_, ?_, ?_, rfl⟩ <;> simp only [w_len, w_2, w_3, w_6, w_7, w_28, w_29, w_bc0, w_bc1, w_bc2, w_bc3, LB, simprocAttr])
     ·have hn2' := eq_true hn2
      have hnm2 : (t.nodes[0].name = []) = False := eq_false (by rw [← hn2]; exact hnm)
      simp only [hi, hip, hit, ht0, hin, hnm, hn2', cne hl2, List.length_map, w_len, w_30, w_3, w_28, w_29, w_ac1, w_aN, ↓LA, LB, simprocAttr]
      refine z4l (if_neg fun h => ?_)
      have := h.2.1 i hi
      rw [hhd, har] at this
      obtain ⟨_, h2⟩ := this.resolve_left hnm
      rw [z2j h0] at h2
      exact hl2 h2.symm
    ·simp only [hi, hip, hit, ht0, hin, hnm, hn2, w_len, w_30, w_3, w_28, w_29, w_ac1, w_aN, ↓LA, LB, simprocAttr]
     refine z4l (if_neg fun h => ?_)
     have := h.2.1 i hi
     rw [hhd, har] at this
     obtain ⟨h2, _⟩ := this.resolve_left hnm
     rw [z2j h0] at h2
     exact hn2 h2.symm
  ·have hie : i = c.head.length := by omega
   subst hie
   have hfit : fitS c g := ⟨hr, a_3, a_2⟩
   have hbd : z6h c g = _ := if_pos hfit
   rw [hbd]
   unfold z2s
   have hA := zdf hg (fun q hq => by omega) a_3
   obtain ⟨A, hAe⟩ : ∃ A, A = bndN c g c.head.length := ⟨_, rfl⟩
   have hAl : ∀ x ∈ A, x.1.length ≤ 8 := fun x hx => by
    rw [hAe] at hx
    obtain ⟨q, hq, j, hj, rfl⟩ := z5a.1 hx
    show ((hd c q).vars.getD j []).length ≤ 8
    rw [List.getD_eq_getElem?_getD, List.getElem?_eq_getElem hj]
    exact (hcv (hd c q) (by rw [zun hq]; exact List.getElem_mem hq)).2.2 _ (List.getElem_mem hj)
   rw [← hAe] at a_1 a_2 hth hA ⊢
   simp only [hi, w_len, w_30, w_2, w_29, w_ac0, ↓LA, LB, simprocAttr]
   refine z0e (fun e0 s0 m env st => ∃ (z nxz lwz : Nat) (sz : List (Nat × Obj)) (xo : V), m = c.body.length - z ∧ (z ≤ c.body.length) ∧ (Gr sz false 18 0 nxz 2 true xo (((c.body.take z).map (zbd A)).map GoalT.d)) ∧ sget sz (10) = some (.cells [.map 9]) ∧ sget sz (9) = some (.map 9 es) ∧ 18 ≤ nxz ∧ 0 ≤ lwz ∧ env.length = 126 ∧ env.getD 96 .undef = .d (.int .i64 z) ∧ env.getD 6 .undef = .ptr 10 0 ∧ env.getD 94 .undef = .d (.sl (c.body.map PatT.d)) ∧ env.getD 95 .undef = .d (.int .i64 c.body.length) ∧ env.getD 14 .undef = xo ∧ st = { s := sz, next := nxz, low := lwz }) ?_ (c.body.length) (by refine ⟨0, _, _, _, .nilS, rfl, by omega, Gr.nil, ?_, ?_, (by omega), Nat.zero_le _, ?_, ?_, ?_, ?_, ?_, ?_, rfl⟩ <;> simp only [w_len, w_6, w_ac2, w_ac3, LB, simprocAttr])
   rintro m env st ⟨z, nxz, lwz, sz, xo, hm, d_0, d_1, w_dc0, w_dc1, w_db, w_dlo, w_len, w_96, w_6, w_94, w_95, w_14, rfl⟩
   have w_dN := aI (cf1 (x := nxz) (a := 10) (by omega)) (cf1 (x := nxz) (a := 9) (by omega))
   have w_dS := aI (cf2 (x := nxz) (by omega) w_dc0) (cf2 (x := nxz) (by omega) w_dc1)
   have w_dZ := zf0 (x := nxz) (n := 18) (by omega)
   have w_d_1V := aI (d_1.away (j := 9) (by omega)) (d_1.away (j := 10) (by omega))
   have w_d_1c := d_1.cell.1
   have w_d_1d := d_1.cell.2
   have w_d_1e := d_1.beq
   by_cases hz : z < c.body.length
   ·have hpv := hbv _ (List.getElem_mem hz)
    have hpt := hth _ (List.getElem_mem hz)
    have hip := z4q hz
    obtain ⟨p, hp⟩ : ∃ p, p = c.body[z] := ⟨_, rfl⟩
    rw [← hp] at hpv hpt hip
    simp only [hz, hip, List.length_map, w_len, w_96, w_94, w_95, ↓LA, LB, simprocAttr]
    refine z0e (fun e0 s0 m env st => ∃ (k nxk lwk : Nat) (sk : List (Nat × Obj)) (xa : V), m = p.vars.length - k ∧ (k ≤ p.vars.length) ∧ (Gr sk false (nxz + 14) 0 nxk 2 true xa (((p.vars.take k).map (look A)).map TreeT.d)) ∧ (Gr sk false 18 0 nxz 2 true xo (((c.body.take z).map (zbd A)).map GoalT.d)) ∧ sget sk (10) = some (.cells [.map 9]) ∧ sget sk (9) = some (.map 9 es) ∧ sget sk (nxz + 8) = some (.cells [.d (.str p.name), xa]) ∧ nxz + 14 ≤ nxk ∧ 0 ≤ lwk ∧ env.length = 126 ∧ env.getD 106 .undef = .d (.int .i64 k) ∧ env.getD 6 .undef = .ptr 10 0 ∧ env.getD 94 .undef = .d (.sl (c.body.map PatT.d)) ∧ env.getD 95 .undef = .d (.int .i64 c.body.length) ∧ env.getD 96 .undef = .d (.int .i64 z) ∧ env.getD 14 .undef = xo ∧ env.getD 17 .undef = .ptr (nxz + 8) 0 ∧ env.getD 104 .undef = .d (.sl (p.vars.map D.str)) ∧ env.getD 105 .undef = .d (.int .i64 p.vars.length) ∧ st = { s := sk, next := nxk, low := lwk }) ?_ (p.vars.length) (by refine ⟨0, _, _, _, .nilS, rfl, by omega, Gr.nil, d_1.frame (by intro j h1 h2; simp (disch := omega) only [z00]), ?_, ?_, ?_, (by omega), Nat.zero_le _, ?_, ?_, ?_, ?_, ?_, ?_, ?_, ?_, ?_, ?_, rfl⟩ <;> simp only [w_len, w_96, w_6, w_94, w_95, w_14, w_dc0, w_dc1, w_dN, LB, simprocAttr])
    rintro m env st ⟨k, nxk, lwk, sk, xa, hm, f_0, f_1, f_2, w_fc0, w_fc1, w_fc2, w_fb, w_flo, w_len, w_106, w_6, w_94, w_95, w_96, w_14, w_17, w_104, w_105, rfl⟩
    have w_fN := aI (cf1 (x := nxk) (a := 10) (by omega)) (aI (cf1 (x := nxk) (a := 9) (by omega)) (cf1 (x := nxk) (a := nxz + 8) (by omega)))
    have w_fS := aI (cf2 (x := nxk) (by omega) w_fc0) (aI (cf2 (x := nxk) (by omega) w_fc1) (cf2 (x := nxk) (by omega) w_fc2))
    have w_fZ := aI (zf (x := nxk) (b := nxz) (n := 14) (by omega) (by omega)) (zf0 (x := nxk) (n := 18) (by omega))
    have w_f_1V := aI (f_1.away (j := 9) (by omega)) (aI (f_1.away (j := 10) (by omega)) (f_1.away (j := nxz + 8) (by omega)))
    have w_f_1c := f_1.cell.1
    have w_f_1d := f_1.cell.2
    have w_f_1e := f_1.beq
    have w_f_2V := aI (f_2.away (j := 9) (by omega)) (aI (f_2.away (j := 10) (by omega)) (f_2.away (j := nxz + 8) (by omega)))
    have w_f_2c := f_2.cell.1
    have w_f_2d := f_2.cell.2
    have w_f_2e := f_2.beq
    by_cases hk : k < p.vars.length
    ·obtain ⟨xx, hxx, hxv⟩ := hpt _ (List.getElem_mem hk)
     have hget := a_1 p.vars[k]
     rw [if_pos ⟨xx, hxx, hxv⟩] at hget
     have hcf : z2g false [.s] (.str p.vars[k]) = true := by have := hAl _ hxx; rw [hxv] at this; simp [z2g, conf, z7q]; omega
     have hlk := fun s nx lw zero (h : sget s 9 = some (.map 9 es)) => (z86 (s := s) (nx := nx) (lw := lw) (zero := zero) hcf h).trans (congrArg (fun o => some (Option.getD o zero)) hget)
     simp only [TreeT.d] at hlk
     simp only [hk, zan hk, hlk, Option.getD_some, w_len, w_106, w_6, w_17, w_104, w_105, w_fc0, w_fc1, w_fc2, ↓LA, LB, simprocAttr]
     refine z5i f_1 ?_ (z0j fun a => z2n) z02 ?_ ?_ ?_ ?_ ?_ fun chc0 hc0 => ?_
     ·intro j h1 h2; simp (disch := omega) only [z00]
     ·rfl
     ·omega
     ·simp; omega
     ·simp; omega
     ·exact rfl
     simp only [z08 hk (by omega), w_len, w_106, w_17, w_fc2, w_fN, w_f_1V, ↓LA, LB, simprocAttr]
     have hn3 : (((p.vars.take (k + 1)).map (look A)).map TreeT.d) = (((p.vars.take k).map (look A)).map TreeT.d) ++ [(look A p.vars[k]).d] := by rw [z4j hk, List.map_append, List.map_append]; rfl
     exact z0c (by refine ⟨_, by omega, k + 1, _, _, _, .arr (nxk + 10) 2 true 0 ((((p.vars.take k).map (look A)).map TreeT.d).length + 1), rfl, by omega, (by rw [hn3]; exact z5o hc0 (by intro j h1 h2 h3; simp (disch := omega) only [z00, z03, z07 h3]) (by omega) (by omega) (by omega) z02 rfl ⟨CV.data, CV.int, trivial⟩), f_2.frame (by intro j h1 h2; simp (disch := omega) only [z00, z03, z07 (f_1.away (j := j) (by omega))]), ?_, ?_, ?_, (by omega), Nat.zero_le _, ?_, ?_, ?_, ?_, ?_, ?_, ?_, ?_, ?_, ?_, rfl⟩ <;> simp only [w_len, w_6, w_94, w_95, w_96, w_14, w_17, w_104, w_105, w_fc0, w_fc1, w_fc2, w_fN, w_dN, w_f_1V, LB, simprocAttr])
    ·have hKt : p.vars.take k = p.vars := List.take_of_length_le (by omega)
     have hgf := f_1
     rw [hKt] at hgf
     have hLg : Lg ⟨p.name, p.vars.map (look A)⟩ := fun u hu => by
      obtain ⟨v, hv, rfl⟩ := List.mem_map.1 hu
      obtain ⟨xx, hxx, hxv⟩ := hpt v hv
      rw [← hxv, z96 a_2 hxx]
      exact hA _ hxx
     simp only [hk, w_len, w_106, w_14, w_17, w_105, w_fc2, ↓LA, LB, simprocAttr]
     refine z0s (zm7 (n := p.name) (l := p.vars.map (look A)) (by rw [List.length_map]; omega) hLg.og hgf) fun r st hR => ?_
     obtain ⟨s1, n1, l1⟩ := st
     obtain ⟨rfl, hn1, hf1⟩ := hR
     have hn1 : n1 = nxk + 7 := hn1
     subst hn1
     have hf1 : ∀ q, (q < nxz + 14 ∨ nxk ≤ q) → sget s1 q = sget sk q := hf1
     rw [hLg.fix]
     have hg2 : Gr s1 false 18 0 nxz 2 true xo (((c.body.take z).map (zbd A)).map GoalT.d) := f_2.frame fun j h1 h2 => hf1 j (.inl (by omega))
     have w_y0 := (hf1 10 (.inl (by omega))).trans w_fc0
     have w_y1 := (hf1 9 (.inl (by omega))).trans w_fc1
     simp only [GoalT.d, w_len, ↓LA, LB, simprocAttr]
     refine z5i hg2 ?_ (z0j fun a => z7p) z02 ?_ ?_ ?_ ?_ ?_ fun chc0 hc0 => ?_
     ·intro j h1 h2; simp (disch := omega) only [z00]
     ·rfl
     ·omega
     ·simp; omega
     ·simp; omega
     ·exact rfl
     simp only [z08 hz (by omega), w_len, w_96, ↓LA, LB, simprocAttr]
     have hn2 : (((c.body.take (z + 1)).map (zbd A)).map GoalT.d) = (((c.body.take z).map (zbd A)).map GoalT.d) ++ [.agg [.str p.name, .sl ((p.vars.map (look A)).map TreeT.d)]] := by
      rw [z4j hz, List.map_append, List.map_append, ← hp]; rfl
     exact z0c (by refine ⟨_, by omega, z + 1, _, _, _, .arr (nxk + 5) 2 true 0 ((((c.body.take z).map (zbd A)).map GoalT.d).length + 1), rfl, by omega, (by rw [hn2]; exact z5o hc0 (by intro j h1 h2 h3; simp (disch := omega) only [z00, z07 h3]) (by omega) (by omega) (by omega) z02 rfl ⟨CV.str, CV.data, trivial⟩), ?_, ?_, (by omega), Nat.zero_le _, ?_, ?_, ?_, ?_, ?_, ?_, rfl⟩ <;> simp only [w_len, w_6, w_94, w_95, w_fN, w_f_2V, w_y0, w_y1, LB, simprocAttr])
   ·have hbt : c.body.take z = c.body := List.take_of_length_le (by omega)
    have hga := d_1
    rw [hbt] at hga
    simp only [hz, w_len, w_96, w_95, w_14, ↓LA, LB, simprocAttr]
    exact rql2 (x := .sl ((c.body.map (zbd A)).map GoalT.d)) (y := .bool true) (zho (S := Iv 18 nxz) (b := 0) (n := 0) (es := 2) (ag := true) (fun _ _ => Nat.zero_le _) hga (by decide) (z0j fun a => z7p) (by decide)) znq rfl
 ·simp only [T1.i25, ClauseT.d, GoalT.d, hr, w_len, w_0, w_1, ↓LA, LB, simprocAttr]
  exact z4l (if_neg fun h => hr h.1)
end Go.Lift.K
namespace Go.Lift.K
open Go Go.Lift Classical
set_option maxRecDepth 100000
theorem zcd {α : Type} {f : α → Int} {l : List α} (h : z0o f l = 0) : ∀ x ∈ l, f x = 0 := by
 intro t ht
 apply Classical.byContradiction
 intro h0
 unfold z0o at h
 cases hf : l.find? (fun t => decide (f t ≠ 0)) with
 | none =>
  rw [List.find?_eq_none] at hf
  have := hf t ht
  simp at this
  exact h0 this
 | some u =>
  rw [hf] at h
  have := List.find?_some hf
  simp at this
  exact this h
theorem zhp {r : RulesT} {g : GoalT} (hg : g.ok) (h : z0w r g = 0) : Og g := by
 apply y3t hg
 unfold z0w at h
 by_cases h1 : z0v r ≠ 0
 ·rw [if_pos h1] at h; exact absurd h h1
 ·rw [if_neg h1] at h
  cases hf : r.rels.find? (isR g.rel) with
  | none => rw [hf] at h; simp at h
  | some x =>
   rw [hf] at h
   simp only at h
   by_cases h2 : (g.args.length : Int) ≠ x.arity
   ·rw [if_pos h2] at h; simp at h
   ·rw [if_neg h2] at h; exact h
structure Cf (c : ClauseT) (g : GoalT) : Prop where
 len : c.rel = g.rel → c.head.length = g.args.length
 hd : ∀ p ∈ c.head, p.vars.length ≤ 4 ∧ (p.name = [] → p.vars.length = 1) ∧ ∀ v ∈ p.vars, v.length ≤ 8
 th : ∀ g', ∀ p ∈ c.body, ∀ v ∈ p.vars, ∃ x ∈ bndN c g' c.head.length, x.1 = v
theorem z7s {r : RulesT} {g : GoalT} (h : z0w r g = 0) {c : ClauseT} (hc : c ∈ r.clauses) : Cf c g := by
 unfold z0w at h
 by_cases h1 : z0v r ≠ 0
 ·rw [if_pos h1] at h; exact absurd h h1
 rw [if_neg h1] at h
 have h1 : z0v r = 0 := Classical.byContradiction h1
 have hcl : z19 r c = 0 := by
  unfold z0v at h1
  by_cases e1 : ((r.rels.length : Int) < 1 ∨ (8 : Int) < r.rels.length) ∨ (24 : Int) < r.clauses.length
  ·rw [if_pos e1] at h1; simp at h1
  ·rw [if_neg e1] at h1
   by_cases e2 : z5f (fun i => z1d r i (r.rels.getD i ⟨[], 0, 0⟩)) r.rels.length ≠ 0
   ·rw [if_pos e2] at h1; exact absurd h1 e2
   ·rw [if_neg e2] at h1; exact zcd h1 c hc
 unfold z19 at hcl
 cases hf : r.rels.find? (isR c.rel) with
 | none => rw [hf] at hcl; simp at hcl
 | some x =>
  rw [hf] at hcl
  simp only at hcl
  by_cases e1 : (c.head.length : Int) ≠ x.arity ∨ (4 : Int) < c.body.length ∨ c.head.all few = false
  ·rw [if_pos e1] at hcl; simp at hcl
  rw [if_neg e1] at hcl
  by_cases e2 : c.head.all nmd = false
  ·rw [if_pos e2] at hcl; simp at hcl
  rw [if_neg e2] at hcl
  have a1 : (c.head.length : Int) = x.arity := Classical.byContradiction fun k => e1 (.inl k)
  have a2 : c.head.all few = true := by
   cases hq : c.head.all few with
   | true => rfl
   | false => exact absurd (.inr (.inr hq)) e1
  have a3 : c.head.all nmd = true := by
   cases hq : c.head.all nmd with
   | true => rfl
   | false => exact absurd hq e2
  refine ⟨fun e => ?_, fun p hp => ?_, fun g' p hp v hv => ?_⟩
  ·rw [← e, hf] at h
   simp only at h
   by_cases e3 : (g.args.length : Int) ≠ x.arity
   ·rw [if_pos e3] at h; simp at h
   ·have : (g.args.length : Int) = x.arity := Classical.byContradiction e3
    omega
  ·have f1 := List.all_eq_true.1 a2 p hp
   have f2 := List.all_eq_true.1 a3 p hp
   simp only [few, nmd, Bool.and_eq_true, decide_eq_true_eq, Bool.or_eq_true, Bool.not_eq_true', decide_eq_false_iff_not] at f1 f2
   refine ⟨f1.1, fun e => f1.2.resolve_left (fun k => k e), fun v hv => z78 (List.all_eq_true.1 f2.2 v hv)⟩
  ·have f1 := zcd hcl p hp
   unfold z2m at f1
   cases hf2 : r.rels.find? (isR p.name) with
   | none => rw [hf2] at f1; simp at f1
   | some y =>
    rw [hf2] at f1
    simp only at f1
    by_cases e3 : (p.vars.length : Int) ≠ y.arity
    ·rw [if_pos e3] at f1; simp at f1
    rw [if_neg e3] at f1
    by_cases e4 : p.vars.all (z4i c.head) = false
    ·rw [if_pos e4] at f1; simp at f1
    have e5 : p.vars.all (z4i c.head) = true := by
     cases hq : p.vars.all (z4i c.head) with
     | true => rfl
     | false => exact absurd hq e4
    have e6 := List.all_eq_true.1 e5 v hv
    unfold z4i at e6
    obtain ⟨q, hq, e7⟩ := List.any_eq_true.1 e6
    obtain ⟨w, hw, e8⟩ := List.any_eq_true.1 e7
    have e9 := of_decide_eq_true e8
    subst e9
    obtain ⟨i, hi, rfl⟩ := List.mem_iff_getElem.1 hq
    obtain ⟨k, hk, rfl⟩ := List.mem_iff_getElem.1 hw
    refine ⟨subE c g' i k, zio hi (by rw [zun hi]; exact hk), ?_⟩
    show (Go.Lift.K.hd c i).vars.getD k [] = _
    rw [zun hi, List.getD_eq_getElem?_getD, List.getElem?_eq_getElem hk]
    rfl
end Go.Lift.K
