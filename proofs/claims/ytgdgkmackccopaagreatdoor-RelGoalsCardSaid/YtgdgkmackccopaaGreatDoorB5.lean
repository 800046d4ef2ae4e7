/- Part B5 of the proof. -/
import Derived.Test.YtgdgkmackccopaaGreatDoorB2
import Derived.Test.YtgdgkmackccopaaGreatDoorB4
import Derived.Test.YtgdgkmackccopaaGreatDoorA7
set_option linter.all false
namespace Go.Lift.K
open Go Go.Lift
set_option maxRecDepth 100000
def nd (ns : List NodeT) (i : Nat) : NodeT := ns.getD i ⟨[], []⟩
def kds (ns : List NodeT) (i : Nat) : List Nat := (nd ns i).kids.map Int.toNat
def kid (ns : List NodeT) (i j : Nat) : Nat := (kds ns i).getD j 0
theorem z2j {ns : List NodeT} {i : Nat} (h : i < ns.length) : nd ns i = ns[i] := by simp [nd, h]
theorem z31 {ns : List NodeT} {i : Nat} : (kds ns i).length = (nd ns i).kids.length := by simp [kds]
def ap (a b : List NodeT) : Nat → Nat → Nat → Prop
 | 0, _, _ => True
 | n + 1, x, y => (nd a x).name = (nd b y).name ∧ (nd a x).kids.length = (nd b y).kids.length ∧ ∀ j, j < (nd a x).kids.length → ap a b n (kid a x j) (kid b y j)
def bis (a b : List NodeT) (x y : Nat) : Prop := ∀ n, ap a b n x y
theorem z8g {a : List NodeT} : ∀ {n x : Nat}, ap a a n x x
 | 0, _ => trivial
 | _ + 1, _ => ⟨rfl, rfl, fun _ _ => z8g⟩
theorem zik {a b : List NodeT} : ∀ {n x y : Nat}, ap a b n x y → ap b a n y x
 | 0, _, _, _ => trivial
 | _ + 1, _, _, ⟨h1, h2, h3⟩ => ⟨h1.symm, h2.symm, fun j hj => zik (h3 j (h2 ▸ hj))⟩
theorem zeh {a b c : List NodeT} : ∀ {n x y z : Nat}, ap a b n x y → ap b c n y z → ap a c n x z
 | 0, _, _, _, _, _ => trivial
 | _ + 1, _, _, _, ⟨h1, h2, h3⟩, ⟨k1, k2, k3⟩ => ⟨h1.trans k1, h2.trans k2, fun j hj => zeh (h3 j hj) (k3 j (h2 ▸ hj))⟩
theorem zbe {a b : List NodeT} : ∀ {n x y : Nat}, ap a b (n + 1) x y → ap a b n x y
 | 0, _, _, _ => trivial
 | _ + 1, _, _, ⟨h1, h2, h3⟩ => ⟨h1, h2, fun j hj => zbe (h3 j hj)⟩
theorem z3n {a : List NodeT} {x : Nat} : bis a a x x := fun _ => z8g
theorem z38 {a b : List NodeT} {x y : Nat} (h : bis a b x y) : bis b a y x := fun n => zik (h n)
theorem z26 {a b c : List NodeT} {x y z : Nat} (h : bis a b x y) (k : bis b c y z) : bis a c x z := fun n => zeh (h n) (k n)
theorem z5b {a b : List NodeT} {x y : Nat} (h : bis a b x y) : (nd a x).name = (nd b y).name ∧ (nd a x).kids.length = (nd b y).kids.length ∧ ∀ j, j < (nd a x).kids.length → bis a b (kid a x j) (kid b y j) :=
 ⟨(h 1).1, (h 1).2.1, fun j hj n => (h (n + 1)).2.2 j hj⟩
theorem zs1 {a b : List NodeT} {R : Nat → Nat → Prop} (hR : ∀ x y, R x y → (nd a x).name = (nd b y).name ∧ (nd a x).kids.length = (nd b y).kids.length ∧ ∀ j, j < (nd a x).kids.length → R (kid a x j) (kid b y j)) {x y : Nat} (h : R x y) : bis a b x y := by
 intro n
 induction n generalizing x y with
 | zero => trivial
 | succ n ih => exact ⟨(hR x y h).1, (hR x y h).2.1, fun j hj => ih ((hR x y h).2.2 j hj)⟩
open Classical in
noncomputable def addE (E : Nat → Nat → Prop) : List Nat → List Nat → List Nat
 | o, [] => o
 | o, k :: ks => addE E (if ∃ r ∈ o, E r k then o else o ++ [k]) ks
section
variable {E : Nat → Nat → Prop}
theorem z2k {o ks : List Nat} {k : Nat} (h : ∃ r ∈ o, E r k) : addE E o (k :: ks) = addE E o ks := by rw [addE, if_pos h]
theorem z1m {o ks : List Nat} {k : Nat} (h : ¬ ∃ r ∈ o, E r k) : addE E o (k :: ks) = addE E (o ++ [k]) ks := by rw [addE, if_neg h]
theorem z21 : ∀ {o ks ms : List Nat}, addE E o (ks ++ ms) = addE E (addE E o ks) ms
 | _, [], _ => rfl
 | o, k :: ks, ms => by
  rw [List.cons_append, addE, addE]
  exact z21
theorem zgn {o ks : List Nat} {k : Nat} : addE E o (ks ++ [k]) = addE E (addE E o ks) [k] := z21
theorem z20 : ∀ {o ks : List Nat}, ∃ m, addE E o ks = o ++ m
 | o, [] => ⟨[], by simp [addE]⟩
 | o, k :: ks => by
  by_cases h : ∃ r ∈ o, E r k
  ·rw [z2k h]; exact z20
  ·rw [z1m h]
   obtain ⟨m, hm⟩ := z20 (o := o ++ [k]) (ks := ks)
   exact ⟨[k] ++ m, by rw [hm, List.append_assoc]⟩
theorem z69 : ∀ {o ks : List Nat} {x : Nat}, x ∈ addE E o ks → x ∈ o ∨ x ∈ ks
 | _, [], _, h => .inl h
 | o, k :: ks, x, h => by
  by_cases hk : ∃ r ∈ o, E r k
  ·rw [z2k hk] at h
   exact (z69 h).imp id (fun h => by simp [h])
  ·rw [z1m hk] at h
   rcases z69 h with h | h
   ·rw [List.mem_append, List.mem_singleton] at h
    exact h.imp id (fun h => by simp [h])
   ·exact .inr (by simp [h])
theorem z9i {o ks : List Nat} {x : Nat} (h : x ∈ o) : x ∈ addE E o ks := by
 obtain ⟨m, hm⟩ := z20 (E := E) (o := o) (ks := ks)
 rw [hm]; simp [h]
theorem z3u (hr : ∀ x, E x x) : ∀ {o ks : List Nat} {x : Nat}, x ∈ ks → ∃ r ∈ addE E o ks, E r x
 | o, k :: ks, x, h => by
  by_cases hk : ∃ r ∈ o, E r k
  ·rw [z2k hk]
   rcases List.mem_cons.1 h with rfl | h
   ·obtain ⟨r, h1, h2⟩ := hk; exact ⟨r, z9i h1, h2⟩
   ·exact z3u hr h
  ·rw [z1m hk]
   rcases List.mem_cons.1 h with rfl | h
   ·exact ⟨x, z9i (by simp), hr x⟩
   ·exact z3u hr h
theorem zej : ∀ {o ks : List Nat}, o.Pairwise (fun x y => ¬ E x y) → (addE E o ks).Pairwise (fun x y => ¬ E x y)
 | _, [], h => h
 | o, k :: ks, h => by
  by_cases hk : ∃ r ∈ o, E r k
  ·rw [z2k hk]; exact zej h
  ·rw [z1m hk]
   refine zej (List.pairwise_append.2 ⟨h, by simp, fun a ha b hb => ?_⟩)
   rw [List.mem_singleton] at hb
   subst hb
   exact fun e => hk ⟨a, ha, e⟩
theorem zek : ∀ {o ks : List Nat}, (∀ k ∈ ks, ∃ r ∈ o, E r k) → addE E o ks = o
 | _, [], _ => rfl
 | o, k :: ks, h => by rw [z2k (h k (by simp))]; exact zek fun x hx => h x (by simp [hx])
end
noncomputable def reps (E : Nat → Nat → Prop) (l : List Nat) : List Nat := addE E [] l
theorem zd4 {E : Nat → Nat → Prop} (hr : ∀ x, E x x) : ∀ {ks o : List Nat}, reps E (addE Eq o ks) = addE E (reps E o) ks
 | [], _ => rfl
 | k :: ks, o => by
  by_cases h : k ∈ o
  ·rw [z2k (E := Eq) ⟨k, h, rfl⟩, z2k (E := E) (o := reps E o) (z3u hr h)]
   exact zd4 hr
  ·rw [z1m (E := Eq) (by rintro ⟨r, h1, rfl⟩; exact h h1), zd4 hr]
   have h1 : reps E (o ++ [k]) = addE E (reps E o) [k] := z21
   rw [h1, ← z21]
   rfl
theorem zgy {E : Nat → Nat → Prop} {l : List Nat} : (reps E l).Pairwise (fun x y => ¬ E x y) := zej (by simp)
theorem z92 {E : Nat → Nat → Prop} {l : List Nat} {x : Nat} (h : x ∈ reps E l) : x ∈ l := (z69 h).resolve_left (by simp)
theorem z2e {E : Nat → Nat → Prop} (hr : ∀ x, E x x) {l : List Nat} {x : Nat} (h : x ∈ l) : ∃ r ∈ reps E l, E r x := z3u hr h
inductive Run (E : Nat → Nat → Prop) (ns : List NodeT) : Nat → List Nat → List Nat → Prop
 | stop {o : List Nat} : Run E ns o.length o o
 | step {i : Nat} {o l : List Nat} (h : i < o.length) (r : Run E ns (i + 1) (addE E o (kds ns o[i])) l) : Run E ns i o l
theorem Run.end_ {E : Nat → Nat → Prop} {ns : List NodeT} {i : Nat} {o l : List Nat} (h : Run E ns i o l) (hi : ¬ i < o.length) : l = o := by
 cases h with
 | stop => rfl
 | step h _ => exact absurd h hi
theorem Run.next {E : Nat → Nat → Prop} {ns : List NodeT} {i : Nat} {o l : List Nat} (h : Run E ns i o l) (hi : i < o.length) : Run E ns (i + 1) (addE E o (kds ns o[i])) l := by
 cases h with
 | stop => exact absurd hi (Nat.lt_irrefl _)
 | step _ r => exact r
theorem Run.pre {E : Nat → Nat → Prop} {ns : List NodeT} {i : Nat} {o l : List Nat} (h : Run E ns i o l) : ∃ m, l = o ++ m := by
 induction h with
 | stop => exact ⟨[], by simp⟩
 | @step i o l h r ih =>
  obtain ⟨m, hm⟩ := ih
  obtain ⟨m', hm'⟩ := z20 (E := E) (o := o) (ks := kds ns o[i])
  exact ⟨m' ++ m, by rw [hm, hm', List.append_assoc]⟩
theorem z55 : ∀ {n : Nat} {l : List Nat}, l.Nodup → (∀ x ∈ l, x < n) → l.length ≤ n
 | 0, l, _, h => by
  cases l with
  | nil => simp
  | cons a l => exact absurd (h a (by simp)) (Nat.not_lt_zero _)
 | n + 1, l, hd, h => by
  have h1 : (l.erase n).length ≤ n := z55 (hd.erase n) fun x hx => by
   have := (hd.mem_erase_iff).1 hx
   have := h x this.2
   have := this
   omega
  have h2 : l.length ≤ (l.erase n).length + 1 := by
   rw [List.length_erase]; split <;> omega
  omega
theorem z84 {o ks : List Nat} (h : o.Nodup) : (addE Eq o ks).Nodup := zej (E := Eq) h
def Rt (ns : List NodeT) : Prop := ∀ i, i < ns.length → ∀ k ∈ kds ns i, k < ns.length
theorem zw6 {ns : List NodeT} (hn : Rt ns) : ∀ {f i : Nat} {o : List Nat}, o.Nodup → (∀ x ∈ o, x < ns.length) → i ≤ o.length → ns.length < f + i → ∃ l, Run Eq ns i o l
 | 0, i, o, h1, h2, h3, h4 => by have := z55 h1 h2; omega
 | f + 1, i, o, h1, h2, h3, h4 => by
  by_cases hi : i < o.length
  ·have hx := h2 o[i] (List.getElem_mem hi)
   obtain ⟨l, hl⟩ := zw6 hn (f := f) (i := i + 1) (o := addE Eq o (kds ns o[i])) (z84 h1) (fun x hx' => (z69 hx').elim (h2 x) (hn _ hx x)) (by obtain ⟨m, hm⟩ := z20 (E := Eq) (o := o) (ks := kds ns o[i]); rw [hm, List.length_append]; omega) (by omega)
   exact ⟨l, .step hi hl⟩
  ·have : i = o.length := by omega
   subst this
   exact ⟨o, .stop⟩
open Classical in
noncomputable def z2z (ns : List NodeT) (r : Nat) : List Nat := if h : ∃ l, Run Eq ns 0 [r] l then h.choose else []
theorem za2 {ns : List NodeT} (hn : Rt ns) {r : Nat} (hr : r < ns.length) : Run Eq ns 0 [r] (z2z ns r) := by
 have h : ∃ l, Run Eq ns 0 [r] l := zw6 hn (f := ns.length + 1) (by simp) (by simpa using hr) (by simp) (by omega)
 unfold z2z
 rw [dif_pos h]
 exact h.choose_spec
theorem zy3 {ns : List NodeT} (hn : Rt ns) {i : Nat} {o l : List Nat} (h : Run Eq ns i o l) : o.Nodup → (∀ x ∈ o, x < ns.length) → (∀ j (hj : j < o.length), j < i → ∀ k ∈ kds ns o[j], k ∈ o) →
  l.Nodup ∧ (∀ x ∈ l, x < ns.length) ∧ ∀ x ∈ l, ∀ k ∈ kds ns x, k ∈ l := by
 induction h with
 | @stop o =>
  intro h1 h2 h3
  refine ⟨h1, h2, fun x hx k hk => ?_⟩
  obtain ⟨j, hj, rfl⟩ := List.mem_iff_getElem.1 hx
  exact h3 j hj hj k hk
 | @step i o l hi r ih =>
  intro h1 h2 h3
  obtain ⟨m, hm⟩ := z20 (E := Eq) (o := o) (ks := kds ns o[i])
  refine ih (z84 h1) (fun x hx => (z69 hx).elim (h2 x) (hn _ (h2 _ (List.getElem_mem hi)) x)) fun j hj hji k hk => ?_
  have hjo : j < o.length := by omega
  have e : (addE Eq o (kds ns o[i]))[j] = o[j] := by simp only [hm]; exact List.getElem_append_left hjo
  rw [e] at hk
  by_cases hj' : j < i
  ·exact z9i (h3 j hjo hj' k hk)
  ·have : j = i := by omega
   subst this
   obtain ⟨r, h1, rfl⟩ := z3u (E := Eq) (fun _ => rfl) (o := o) hk
   exact h1
section
variable {ns : List NodeT} {r : Nat}
theorem z1v (hn : Rt ns) (hr : r < ns.length) : (z2z ns r).Nodup ∧ (∀ x ∈ z2z ns r, x < ns.length) ∧ (∀ x ∈ z2z ns r, ∀ k ∈ kds ns x, k ∈ z2z ns r) ∧ ∃ m, z2z ns r = r :: m := by
 have h := za2 hn hr
 obtain ⟨h1, h2, h3⟩ := zy3 hn h (by simp) (by simpa using hr) (fun j hj h => by omega)
 obtain ⟨m, hm⟩ := h.pre
 exact ⟨h1, h2, h3, m, hm⟩
theorem zf9 (hn : Rt ns) (hr : r < ns.length) : (z2z ns r).length ≤ ns.length := z55 (z1v hn hr).1 (z1v hn hr).2.1
end
end Go.Lift.K
namespace Go.Lift.K
open Go Go.Lift Classical
set_option maxRecDepth 100000
structure Cg (ns : List NodeT) (E : Nat → Nat → Prop) : Prop where
 refl : ∀ x, E x x
 symm : ∀ {x y}, E x y → E y x
 trans : ∀ {x y z}, E x y → E y z → E x z
 low : ∀ {x y}, E x y → ∀ k ∈ kds ns y, ∃ j ∈ kds ns x, E j k
theorem z3h {ns : List NodeT} {x j : Nat} (h : j < (nd ns x).kids.length) : kid ns x j ∈ kds ns x := by
 have h' : j < (kds ns x).length := by rw [z31]; exact h
 unfold kid
 rw [List.getD_eq_getElem?_getD, List.getElem?_eq_getElem h', Option.getD_some]
 exact List.getElem_mem h'
theorem zyr {ns : List NodeT} {x k : Nat} (h : k ∈ kds ns x) : ∃ j, j < (nd ns x).kids.length ∧ kid ns x j = k := by
 obtain ⟨j, hj, rfl⟩ := List.mem_iff_getElem.1 h
 exact ⟨j, by rw [← z31]; exact hj, by unfold kid; rw [List.getD_eq_getElem?_getD, List.getElem?_eq_getElem hj, Option.getD_some]⟩
theorem y35 {ns : List NodeT} : Cg ns (bis ns ns) where
 refl _ := z3n
 symm := z38
 trans := z26
 low {x y} h k hk := by
  obtain ⟨h1, h2, h3⟩ := z5b h
  obtain ⟨j, hj, rfl⟩ := zyr hk
  exact ⟨kid ns x j, z3h (h2 ▸ hj), h3 j (h2 ▸ hj)⟩
theorem zt8 {ns : List NodeT} {E : Nat → Nat → Prop} (c : Cg ns E) {i : Nat} {o l : List Nat} (h : Run Eq ns i o l) : (∀ j (hj : j < o.length), j < i → ∀ k ∈ kds ns o[j], k ∈ o) → Run E ns (reps E (o.take i)).length (reps E o) (reps E l) := by
 induction h with
 | @stop o => intro _; rw [List.take_length]; exact .stop
 | @step i o l hi r ih =>
  intro h3
  obtain ⟨m, hm⟩ := z20 (E := Eq) (o := o) (ks := kds ns o[i])
  have hcl : ∀ j (hj : j < (addE Eq o (kds ns o[i])).length), j < i + 1 → ∀ k ∈ kds ns (addE Eq o (kds ns o[i]))[j], k ∈ addE Eq o (kds ns o[i]) := by
   intro j hj hji k hk
   have hjo : j < o.length := by omega
   have e : (addE Eq o (kds ns o[i]))[j] = o[j] := by simp only [hm]; exact List.getElem_append_left hjo
   rw [e] at hk
   by_cases hj' : j < i
   ·exact z9i (h3 j hjo hj' k hk)
   ·have : j = i := by omega
    subst this
    obtain ⟨r, h1, rfl⟩ := z3u (E := Eq) (fun _ => rfl) (o := o) hk
    exact h1
  have ih' := ih hcl
  rw [zd4 c.refl] at ih'
  have ht : (addE Eq o (kds ns o[i])).take (i + 1) = o.take i ++ [o[i]] := by
   rw [hm, List.take_append_of_le_length (by omega), List.take_add_one, List.getElem?_eq_getElem hi]; rfl
  rw [ht] at ih'
  by_cases hx : ∃ r ∈ reps E (o.take i), E r o[i]
  ·
   have e1 : reps E (o.take i ++ [o[i]]) = reps E (o.take i) := by
    unfold reps
    rw [z21]
    exact zek (fun k hk => by rw [List.mem_singleton] at hk; subst hk; exact hx)
   have e2 : addE E (reps E o) (kds ns o[i]) = reps E o := zek fun k hk => by
    obtain ⟨r, hr, he⟩ := hx
    have hr' := z92 hr
    obtain ⟨j, hj, rfl⟩ := List.mem_iff_getElem.1 hr'
    have hj2 : j < i := by rw [List.length_take] at hj; omega
    have hj3 : j < o.length := by omega
    rw [List.getElem_take] at he
    obtain ⟨q, hq, hqe⟩ := c.low he k hk
    obtain ⟨p, hp, hpe⟩ := z2e c.refl (h3 j hj3 hj2 q hq)
    exact ⟨p, hp, c.trans hpe hqe⟩
   rw [e1, e2] at ih'
   exact ih'
  ·have e1 : reps E (o.take i ++ [o[i]]) = reps E (o.take i) ++ [o[i]] := by
    unfold reps at hx ⊢
    rw [z21, z1m hx]; rfl
   obtain ⟨m', hm'⟩ := z20 (E := E) (o := reps E (o.take i ++ [o[i]])) (ks := o.drop (i + 1))
   have e2 : reps E o = reps E (o.take i) ++ o[i] :: m' := by
    have : o = o.take i ++ [o[i]] ++ o.drop (i + 1) := by simp
    have h4 : reps E o = reps E (o.take i ++ [o[i]] ++ o.drop (i + 1)) := by rw [← this]
    rw [h4]
    unfold reps at hm' ⊢
    rw [z21, hm']
    unfold reps at e1
    rw [e1]; simp
   have hlt : (reps E (o.take i)).length < (reps E o).length := by rw [e2]; simp
   have hat : (reps E o)[(reps E (o.take i)).length] = o[i] := by simp only [e2]; simp
   rw [e1, List.length_append, List.length_singleton] at ih'
   refine .step hlt ?_
   rw [hat]
   exact ih'
def al (a b : List NodeT) (l m : List Nat) : Prop := l.length = m.length ∧ ∀ i (h1 : i < l.length) (h2 : i < m.length), bis a b l[i] m[i]
theorem zil {a b : List NodeT} {x y : Nat} {l m : List Nat} : al a b (x :: l) (y :: m) ↔ bis a b x y ∧ al a b l m := by
 constructor
 ·intro ⟨h1, h2⟩
  refine ⟨h2 0 (by simp) (by simp), by simpa using h1, fun i h3 h4 => ?_⟩
  exact h2 (i + 1) (by simp; omega) (by simp; omega)
 ·intro ⟨h1, h2, h3⟩
  refine ⟨by simp [h2], fun i h4 h5 => ?_⟩
  cases i with
  | zero => exact h1
  | succ i => exact h3 i (by simp at h4; omega) (by simp at h5; omega)
theorem y0e {a b : List NodeT} {x y : Nat} {l m : List Nat} (h : al a b l m) (hx : bis a b x y) : al a b (l ++ [x]) (m ++ [y]) := by
 refine ⟨by simp [h.1], fun i h1 h2 => ?_⟩
 by_cases hi : i < l.length
 ·have hj : i < m.length := by rw [← h.1]; exact hi
  rw [List.getElem_append_left hi, List.getElem_append_left hj]
  exact h.2 i hi hj
 ·have e : i = l.length := by simp at h1; omega
  subst e
  have e2 := h.1
  have : (m ++ [y])[l.length] = y := by simp [e2]
  rw [this]
  simpa using hx
theorem y3a {a b : List NodeT} {x y : Nat} {l m : List Nat} (h : al a b l m) (hx : bis a b x y) (he : ∃ r ∈ l, bis a a r x) : ∃ r ∈ m, bis b b r y := by
 obtain ⟨r, hr, h1⟩ := he
 obtain ⟨i, hi, rfl⟩ := List.mem_iff_getElem.1 hr
 have hj : i < m.length := by rw [← h.1]; exact hi
 exact ⟨m[i], List.getElem_mem hj, z26 (z38 (h.2 i hi hj)) (z26 h1 hx)⟩
theorem y0d {a b : List NodeT} {l m : List Nat} (h : al a b l m) : al b a m l := ⟨h.1.symm, fun i h1 h2 => z38 (h.2 i h2 h1)⟩
theorem zsc {a b : List NodeT} : ∀ {ks ms o p : List Nat}, al a b ks ms → al a b o p → al a b (addE (bis a a) o ks) (addE (bis b b) p ms)
 | [], [], _, _, _, h => h
 | [], _ :: _, _, _, h, _ => by simp [al] at h
 | _ :: _, [], _, _, h, _ => by simp [al] at h
 | k :: ks, m :: ms, o, p, h, ho => by
  rw [zil] at h
  by_cases hk : ∃ r ∈ o, bis a a r k
  ·rw [z2k hk, z2k (y3a ho h.1 hk)]
   exact zsc h.2 ho
  ·have hm : ¬ ∃ r ∈ p, bis b b r m := fun e => hk (y3a (y0d ho) (z38 h.1) e)
   rw [z1m hk, z1m hm]
   exact zsc h.2 (y0e ho h.1)
theorem zxn {a b : List NodeT} {x y : Nat} (h : bis a b x y) : al a b (kds a x) (kds b y) := by
 obtain ⟨h1, h2, h3⟩ := z5b h
 refine ⟨by rw [z31, z31, h2], fun i hi hj => ?_⟩
 have := h3 i (by rw [← z31]; exact hi)
 unfold kid at this
 simpa [List.getD_eq_getElem?_getD, hi, hj] using this
theorem y39 {a b : List NodeT} {i : Nat} {o l : List Nat} (h : Run (bis a a) a i o l) : ∀ {p m : List Nat}, Run (bis b b) b i p m → al a b o p → al a b l m := by
 induction h with
 | @stop o =>
  intro p m hm ho
  rw [hm.end_ (by rw [ho.1]; omega)]
  exact ho
 | @step i o l hi r ih =>
  intro p m hm ho
  have hj : i < p.length := by rw [← ho.1]; exact hi
  exact ih (hm.next hj) (zsc (zxn (ho.2 i hi hj)) ho)
noncomputable def cls (E : Nat → Nat → Prop) (R : List Nat) (x : Nat) : Nat := R.findIdx fun r => decide (E r x)
noncomputable def z1x (ns : List NodeT) (r : Nat) : List Nat := reps (bis ns ns) (z2z ns r)
noncomputable def z3i (ns : List NodeT) (R : List Nat) (x : Nat) : NodeT := ⟨(nd ns x).name, (kds ns x).map fun k => ((cls (bis ns ns) R k : Nat) : Int)⟩
noncomputable def z0r (ns : List NodeT) (r : Nat) : List NodeT := (z1x ns r).map (z3i ns (z1x ns r))
noncomputable def z2c (t : TreeT) : TreeT := ⟨z0r t.nodes t.root.toNat, 0⟩
theorem z7b {ns : List NodeT} (hn : Rt ns) {r : Nat} (hr : r < ns.length) : Run (bis ns ns) ns 0 [r] (z1x ns r) := by
 have := zt8 y35 (za2 hn hr) (fun j hj h => by omega)
 have e : reps (bis ns ns) [r] = [r] := by
  unfold reps
  rw [z1m (by simp)]; rfl
 rw [e] at this
 exact this
theorem y2z {a b : List NodeT} {x y : Nat} {l m : List Nat} (h : al a b l m) (hx : bis a b x y) : cls (bis a a) l x = cls (bis b b) m y := by
 have key : ∀ {l m : List Nat}, al a b l m → cls (bis a a) l x = cls (bis b b) m y := by
  intro l
  induction l with
  | nil =>
   intro m h
   have : m = [] := List.length_eq_zero_iff.1 (by rw [← h.1]; rfl)
   subst this; rfl
  | cons r l ih =>
   intro m h
   cases m with
   | nil => simp [al] at h
   | cons s m =>
    rw [zil] at h
    have ih' := ih h.2
    unfold cls at ih' ⊢
    rw [List.findIdx_cons, List.findIdx_cons, ih']
    have e : decide (bis a a r x) = decide (bis b b s y) := by
     rw [decide_eq_decide]
     exact ⟨fun h2 => z26 (z38 h.1) (z26 h2 hx), fun h2 => z26 h.1 (z26 h2 (z38 hx))⟩
    rw [e]
 exact key h
theorem zdj {a b : List NodeT} (ha : Rt a) (hb : Rt b) {x y : Nat} (hx : x < a.length) (hy : y < b.length) (h : bis a b x y) : z0r a x = z0r b y := by
 have hl : al a b (z1x a x) (z1x b y) := y39 (z7b ha hx) (z7b hb hy) (zil.2 ⟨h, rfl, fun i h1 _ => by simp at h1⟩)
 unfold z0r
 apply List.ext_getElem
 ·simp [hl.1]
 ·intro i h1 h2
  simp only [List.getElem_map]
  rw [List.length_map] at h1 h2
  have hb := hl.2 i h1 h2
  obtain ⟨k1, k2, k3⟩ := z5b hb
  unfold z3i
  rw [k1]
  congr 1
  have hk := zxn hb
  apply List.ext_getElem
  ·simp [hk.1]
  ·intro j g1 g2
   simp only [List.getElem_map]
   rw [List.length_map] at g1 g2
   rw [y2z hl (hk.2 j g1 g2)]
theorem zcj {E : Nat → Nat → Prop} {R : List Nat} {x : Nat} (h : ∃ r ∈ R, E r x) : ∃ h : cls E R x < R.length, E R[cls E R x] x := by
 obtain ⟨r, hr, he⟩ := h
 have h1 : cls E R x < R.length := List.findIdx_lt_length_of_exists ⟨r, hr, by simpa using he⟩
 refine ⟨h1, ?_⟩
 have := List.findIdx_getElem (xs := R) (p := fun r => decide (E r x)) (w := h1)
 exact of_decide_eq_true this
section
variable {ns : List NodeT} {r : Nat}
theorem z40 (hn : Rt ns) (hr : r < ns.length) {x : Nat} (h : x ∈ z1x ns r) : x ∈ z2z ns r ∧ x < ns.length := ⟨z92 h, (z1v hn hr).2.1 x (z92 h)⟩
theorem z7d (hn : Rt ns) (hr : r < ns.length) : 1 ≤ (z0r ns r).length ∧ (z0r ns r).length ≤ ns.length := by
 unfold z0r
 rw [List.length_map]
 constructor
 ·obtain ⟨m, hm⟩ := (z7b hn hr).pre
  rw [hm]; simp
 ·refine z55 ?_ fun x hx => (z40 hn hr hx).2
  exact (zgy (E := bis ns ns) (l := z2z ns r)).imp fun {a b} h e => h (by rw [e]; exact z3n)
theorem z94 {i : Nat} (hi : i < (z1x ns r).length) : nd (z0r ns r) i = z3i ns (z1x ns r) (z1x ns r)[i] := by
 rw [z2j (by unfold z0r; rw [List.length_map]; exact hi)]
 unfold z0r
 rw [List.getElem_map]
theorem zfr {i : Nat} (hi : i < (z1x ns r).length) : kds (z0r ns r) i = (kds ns (z1x ns r)[i]).map (cls (bis ns ns) (z1x ns r)) := by
 unfold kds
 rw [z94 hi]
 unfold z3i
 rw [List.map_map]
 unfold kds
 apply List.map_congr_left
 intro k _
 simp
theorem zdi (hn : Rt ns) (hr : r < ns.length) : Rt (z0r ns r) := by
 intro i hi k hk
 have hi' : i < (z1x ns r).length := by unfold z0r at hi; rwa [List.length_map] at hi
 rw [zfr hi'] at hk
 obtain ⟨q, hq, rfl⟩ := List.mem_map.1 hk
 have hx := z40 hn hr (List.getElem_mem hi')
 obtain ⟨h1, _⟩ := zcj (z2e (E := bis ns ns) (fun _ => z3n) ((z1v hn hr).2.2.1 _ hx.1 q hq))
 unfold z0r
 rw [List.length_map]
 exact h1
theorem z7e (hn : Rt ns) (hr : r < ns.length) {i : Nat} (hi : i < (z1x ns r).length) : bis (z0r ns r) ns i (z1x ns r)[i] := by
 refine zs1 (R := fun c x => ∃ h : c < (z1x ns r).length, x ∈ z2z ns r ∧ bis ns ns (z1x ns r)[c] x) ?_ ⟨hi, (z40 hn hr (List.getElem_mem hi)).1, z3n⟩
 rintro c x ⟨hc, hx, hb⟩
 obtain ⟨k1, k2, k3⟩ := z5b hb
 rw [z94 hc]
 refine ⟨by unfold z3i; exact k1, by unfold z3i; rw [List.length_map, z31]; exact k2, fun j hj => ?_⟩
 have hj' : j < (nd ns (z1x ns r)[c]).kids.length := by unfold z3i at hj; rw [List.length_map, z31] at hj; exact hj
 have hq : kid ns (z1x ns r)[c] j ∈ z2z ns r := (z1v hn hr).2.2.1 _ (z40 hn hr (List.getElem_mem hc)).1 _ (z3h hj')
 obtain ⟨h1, h2⟩ := zcj (z2e (E := bis ns ns) (fun _ => z3n) hq)
 have e : kid (z0r ns r) c j = cls (bis ns ns) (z1x ns r) (kid ns (z1x ns r)[c] j) := by
  unfold kid
  rw [zfr hc]
  have hj2 : j < (kds ns (z1x ns r)[c]).length := by rw [z31]; exact hj'
  simp [List.getD_eq_getElem?_getD, hj2]
 rw [e]
 exact ⟨h1, (z1v hn hr).2.2.1 _ hx _ (z3h (k2 ▸ hj')), z26 h2 (k3 j hj')⟩
theorem zm0 (hn : Rt ns) (hr : r < ns.length) : ∃ h : 0 < (z1x ns r).length, (z1x ns r)[0] = r := by
 obtain ⟨m, hm⟩ := (z7b hn hr).pre
 refine ⟨by rw [hm]; simp, ?_⟩
 simp only [hm]; rfl
theorem z89 (hn : Rt ns) (hr : r < ns.length) : bis (z0r ns r) ns 0 r := by
 obtain ⟨h, e⟩ := zm0 hn hr
 have := z7e hn hr h
 rwa [e] at this
theorem zpx (hn : Rt ns) (hr : r < ns.length) {c d : Nat} (hc : c < (z0r ns r).length) (hd : d < (z0r ns r).length) (h : bis (z0r ns r) (z0r ns r) c d) : c = d := by
 have hc' : c < (z1x ns r).length := by unfold z0r at hc; rwa [List.length_map] at hc
 have hd' : d < (z1x ns r).length := by unfold z0r at hd; rwa [List.length_map] at hd
 have hb : bis ns ns (z1x ns r)[c] (z1x ns r)[d] := z26 (z38 (z7e hn hr hc')) (z26 h (z7e hn hr hd'))
 have hp := List.pairwise_iff_getElem.1 (zgy (E := bis ns ns) (l := z2z ns r))
 rcases Nat.lt_trichotomy c d with h1 | h1 | h1
 ·exact absurd hb (hp c d hc' hd' h1)
 ·exact h1
 ·exact absurd (z38 hb) (hp d c hd' hc' h1)
theorem zhk (hn : Rt ns) (hr : r < ns.length) : z0r (z0r ns r) 0 = z0r ns r :=
 zdj (zdi hn hr) hn (z7d hn hr).1 hr (z89 hn hr)
end
theorem zpz {a b : List NodeT} (ha : Rt a) (hb : Rt b) {x y : Nat} (hx : x < a.length) (hy : y < b.length) : z0r a x = z0r b y ↔ bis a b x y := by
 refine ⟨fun h => ?_, zdj ha hb hx hy⟩
 have h1 := z89 ha hx
 rw [h] at h1
 exact z26 (z38 h1) (z89 hb hy)
end Go.Lift.K
namespace Go.Lift.K
open Go Go.Lift Classical
set_option maxRecDepth 100000
section
variable {E : Nat → Nat → Prop} {R m : List Nat} {x y : Nat}
theorem z58 {r : Nat} : cls E (r :: R) x = if E r x then 0 else cls E R x + 1 := by
 unfold cls
 rw [List.findIdx_cons]
 by_cases h : E r x
 ·simp [h]
 ·simp [h]
theorem zi2 (h : ∃ r ∈ R, E r x) : cls E (R ++ m) x = cls E R x := by
 induction R with
 | nil => obtain ⟨r, hr, _⟩ := h; cases hr
 | cons a R ih =>
  rw [List.cons_append, z58, z58]
  by_cases ha : E a x
  ·rw [if_pos ha, if_pos ha]
  ·rw [if_neg ha, if_neg ha, ih]
   obtain ⟨r, hr, he⟩ := h
   rcases List.mem_cons.1 hr with rfl | hr
   ·exact absurd he ha
   ·exact ⟨r, hr, he⟩
theorem zrn (h : ¬ ∃ r ∈ R, E r x) (hx : E x x) : cls E (R ++ [x]) x = R.length := by
 induction R with
 | nil => rw [List.nil_append, z58, if_pos hx]; rfl
 | cons a R ih =>
  rw [List.cons_append, z58, if_neg (fun e => h ⟨a, by simp, e⟩), ih fun ⟨r, hr, he⟩ => h ⟨r, by simp [hr], he⟩]
  simp
end
structure Eqv (E : Nat → Nat → Prop) : Prop where
 refl : ∀ x, E x x
 symm : ∀ {x y}, E x y → E y x
 trans : ∀ {x y z}, E x y → E y z → E x z
theorem z6i {ns : List NodeT} {n : Nat} : Eqv (ap ns ns n) := ⟨fun _ => z8g, zik, zeh⟩
theorem zbb {ns : List NodeT} : Eqv (bis ns ns) := ⟨fun _ => z3n, z38, z26⟩
section
variable {E : Nat → Nat → Prop} (c : Eqv E) {l : List Nat} {x y : Nat}
theorem ze8 (c : Eqv E) {R : List Nat} (h : E x y) : cls E R x = cls E R y := by
 unfold cls
 congr 1
 funext r
 rw [decide_eq_decide]
 exact ⟨fun k => c.trans k h, fun k => c.trans k (c.symm h)⟩
theorem y01 (c : Eqv E) (hx : x ∈ l) (hy : y ∈ l) : cls E (reps E l) x = cls E (reps E l) y ↔ E x y := by
 refine ⟨fun h => ?_, ze8 c⟩
 obtain ⟨h1, h2⟩ := zcj (z2e c.refl hx)
 obtain ⟨h3, h4⟩ := zcj (z2e c.refl hy)
 simp only [← h] at h4
 exact c.trans (c.symm h2) h4
theorem z6o : (reps E l).length ≤ l.length := by
 have : ∀ (ks o : List Nat), (addE E o ks).length ≤ o.length + ks.length := by
  intro ks
  induction ks with
  | nil => intro o; simp [addE]
  | cons k ks ih =>
   intro o
   by_cases h : ∃ r ∈ o, E r k
   ·rw [z2k h]; have := ih o; simp; omega
   ·rw [z1m h]; have := ih (o ++ [k]); simp at this ⊢; omega
 have := this l []
 simpa [reps] using this
theorem z3a (c : Eqv E) {i : Nat} (hi : i < l.length) : reps E (l.take (i + 1)) = if ∃ r ∈ reps E (l.take i), E r l[i] then reps E (l.take i) else reps E (l.take i) ++ [l[i]] := by
 rw [List.take_add_one, List.getElem?_eq_getElem hi]
 unfold reps
 rw [z21]
 simp only [Option.toList_some, addE]
theorem zd3 {i : Nat} : ∃ m, reps E l = reps E (l.take i) ++ m := by
 have : reps E l = addE E (reps E (l.take i)) (l.drop i) := by
  unfold reps
  rw [← z21, List.take_append_drop]
 rw [this]
 exact z20
end
theorem zf6 {E F : Nat → Nat → Prop} (cE : Eqv E) (cF : Eqv F) (hEF : ∀ {x y}, F x y → E x y) {l : List Nat} (hlen : (reps F l).length ≤ (reps E l).length) {x y : Nat} (hx : x ∈ l) (hy : y ∈ l) (h : E x y) : F x y := by
 have sub : ∀ (ks o p : List Nat), o.Sublist p → (∀ q ∈ p, ∃ r ∈ o, E r q) → (addE E o ks).Sublist (addE F p ks) := by
  intro ks
  induction ks with
  | nil => intro o p h _; exact h
  | cons k ks ih =>
   intro o p hs hc
   by_cases h1 : ∃ r ∈ p, F r k
   ·obtain ⟨q, hq, hqk⟩ := h1
    obtain ⟨r, hr, hrq⟩ := hc q hq
    rw [z2k (E := F) ⟨q, hq, hqk⟩, z2k (E := E) ⟨r, hr, cE.trans hrq (hEF hqk)⟩]
    exact ih o p hs hc
   ·rw [z1m h1]
    by_cases h2 : ∃ r ∈ o, E r k
    ·rw [z2k h2]
     refine ih o _ (hs.trans (List.sublist_append_left p [k])) fun q hq => ?_
     rcases List.mem_append.1 hq with hq | hq
     ·exact hc q hq
     ·rw [List.mem_singleton] at hq; subst hq; exact h2
    ·rw [z1m h2]
     refine ih _ _ (hs.append (List.Sublist.refl [k])) fun q hq => ?_
     rcases List.mem_append.1 hq with hq | hq
     ·obtain ⟨r, hr, hrq⟩ := hc q hq
      exact ⟨r, by simp [hr], hrq⟩
     ·rw [List.mem_singleton] at hq; subst hq
      exact ⟨q, by simp, cE.refl q⟩
 have hsub : (reps E l).Sublist (reps F l) := sub l [] [] (List.Sublist.refl _) (fun q hq => by cases hq)
 have e : reps E l = reps F l := hsub.eq_of_length_le hlen
 obtain ⟨p, hp, hpx⟩ := z2e cF.refl hx
 obtain ⟨q, hq, hqy⟩ := z2e cF.refl hy
 have hpq : E p q := cE.trans (hEF hpx) (cE.trans h (cE.symm (hEF hqy)))
 rw [← e] at hp hq
 obtain ⟨i, hi, rfl⟩ := List.mem_iff_getElem.1 hp
 obtain ⟨j, hj, rfl⟩ := List.mem_iff_getElem.1 hq
 have hw := List.pairwise_iff_getElem.1 (zgy (E := E) (l := l))
 have : i = j := by
  rcases Nat.lt_trichotomy i j with h1 | h1 | h1
  ·exact absurd hpq (hw i j hi hj h1)
  ·exact h1
  ·exact absurd (cE.symm hpq) (hw j i hj hi h1)
 subst this
 exact cF.trans (cF.symm hpx) hqy
theorem zbz {E F : Nat → Nat → Prop} {l : List Nat} (h : ∀ x ∈ l, ∀ y ∈ l, E x y ↔ F x y) : reps E l = reps F l := by
 have : ∀ (ks o : List Nat), (∀ x ∈ o, x ∈ l) → (∀ x ∈ ks, x ∈ l) → addE E o ks = addE F o ks := by
  intro ks
  induction ks with
  | nil => intro o _ _; rfl
  | cons k ks ih =>
   intro o ho hk
   have e : (∃ r ∈ o, E r k) ↔ ∃ r ∈ o, F r k := ⟨fun ⟨r, hr, he⟩ => ⟨r, hr, (h r (ho r hr) k (hk k (by simp))).1 he⟩, fun ⟨r, hr, he⟩ => ⟨r, hr, (h r (ho r hr) k (hk k (by simp))).2 he⟩⟩
   by_cases h1 : ∃ r ∈ o, E r k
   ·rw [z2k h1, z2k (e.1 h1)]
    exact ih o ho fun x hx => hk x (by simp [hx])
   ·rw [z1m h1, z1m fun k => h1 (e.2 k)]
    refine ih _ (fun x hx => ?_) fun x hx => hk x (by simp [hx])
    rcases List.mem_append.1 hx with hx | hx
    ·exact ho x hx
    ·rw [List.mem_singleton] at hx; subst hx; exact hk x (by simp)
 exact this l [] (by simp) fun x hx => hx
theorem zro {E F : Nat → Nat → Prop} {l R : List Nat} (h : ∀ x ∈ l, ∀ y ∈ l, E x y ↔ F x y) (hR : ∀ x ∈ R, x ∈ l) {x : Nat} (hx : x ∈ l) : cls E R x = cls F R x := by
 induction R with
 | nil => rfl
 | cons r R ih =>
  rw [z58, z58, ih fun y hy => hR y (by simp [hy])]
  by_cases h1 : E r x
  ·rw [if_pos h1, if_pos ((h r (hR r (by simp)) x hx).1 h1)]
  ·rw [if_neg h1, if_neg fun k => h1 ((h r (hR r (by simp)) x hx).2 k)]
theorem zsa {ns : List NodeT} {l : List Nat} (hc : ∀ x ∈ l, ∀ k ∈ kds ns x, k ∈ l) {n : Nat} (h : ∀ x ∈ l, ∀ y ∈ l, ap ns ns n x y → ap ns ns (n + 1) x y) {x y : Nat} (hx : x ∈ l) (hy : y ∈ l) (hxy : ap ns ns n x y) : bis ns ns x y := by
 refine zs1 (R := fun x y => x ∈ l ∧ y ∈ l ∧ ap ns ns n x y) ?_ ⟨hx, hy, hxy⟩
 rintro x y ⟨hx, hy, hxy⟩
 obtain ⟨h1, h2, h3⟩ := h x hx y hy hxy
 exact ⟨h1, h2, fun j hj => ⟨hc x hx _ (z3h hj), hc y hy _ (z3h (h2 ▸ hj)), h3 j hj⟩⟩
theorem zi5 {ns : List NodeT} {l : List Nat} (hc : ∀ x ∈ l, ∀ k ∈ kds ns x, k ∈ l) {n : Nat} (hlen : (reps (ap ns ns (n + 1)) l).length = (reps (ap ns ns n) l).length) :
  reps (ap ns ns (n + 1)) l = reps (bis ns ns) l ∧ ∀ x ∈ l, cls (ap ns ns (n + 1)) (reps (ap ns ns (n + 1)) l) x = cls (bis ns ns) (reps (bis ns ns) l) x := by
 have hf : ∀ x ∈ l, ∀ y ∈ l, ap ns ns n x y → ap ns ns (n + 1) x y := fun x hx y hy h => zf6 z6i z6i (fun h => zbe h) (Nat.le_of_eq hlen) hx hy h
 have he : ∀ x ∈ l, ∀ y ∈ l, ap ns ns (n + 1) x y ↔ bis ns ns x y := fun x hx y hy => ⟨fun h => zsa hc hf hx hy (zbe h), fun h => h (n + 1)⟩
 have e1 := zbz he
 refine ⟨e1, fun x hx => ?_⟩
 rw [e1]
 exact zro he (fun y hy => z92 hy) hx
theorem zoa {ns : List NodeT} {l : List Nat} {n : Nat} : (reps (ap ns ns n) l).length ≤ (reps (ap ns ns (n + 1)) l).length := by
 apply Classical.byContradiction
 intro h
 have hf : ∀ x ∈ l, ∀ y ∈ l, ap ns ns n x y ↔ ap ns ns (n + 1) x y := fun x hx y hy => ⟨fun k => zf6 z6i z6i (fun h => zbe h) (by omega) hx hy k, zbe⟩
 rw [zbz hf] at h
 exact h (Nat.le_refl _)
end Go.Lift.K
namespace Go.Lift.K
open Go Go.Lift
set_option maxRecDepth 100000
def dis (l : List Nat) : List D := l.map fun x => D.int .i64 (x : Nat)
theorem dis_len {l : List Nat} : (dis l).length = l.length := by simp [dis]
theorem zrf {l : List Nat} : (dis l).all D.sc = true := by simp [dis, D.sc]
theorem y2r {l : List Nat} {i : Nat} (h : i < l.length) : (dis l)[i]'(by rw [dis_len]; exact h) = .int .i64 (l[i] : Nat) := by simp [dis]
theorem zv3 {l : List Nat} {x : Nat} : dis (l ++ [x]) = dis l ++ [.int .i64 (x : Nat)] := by simp [dis]
theorem z7j {l : List Nat} {i : Nat} (h : i < l.length) : z0a 1 (.d (.sl (dis l))) (i : Int) = some (.dptr [.int .i64 (l[i] : Nat)]) := z24 (enc := fun x : Nat => D.int .i64 (x : Nat)) h rfl
theorem ceq {a b : Nat} (h : a = b) : ((a : Int) = (b : Int)) = True := by simp [h]
theorem cne {a b : Nat} (h : ¬ a = b) : ((a : Int) = (b : Int)) = False := by simp; omega
theorem znq {s : List (Nat × Obj)} {x : D} : snap s 0 z09 (.d x) = some x := by simp [snap, z09]
theorem zv4 {s : List (Nat × Obj)} {k : Nat} {l : List Nat} (h : sget s k = some (.cells (scs (dis l)))) : snap s 0 z09 (.arr k 1 false 0 l.length) = some (.sl (dis l)) := by
 have := zd0 h zrf
 rwa [dis_len] at this
theorem zzu {s : List (Nat × Obj)} {nx lw key k k1 x : Nat} {l : List Nat} (h1 : sget s k = some (.cells (scs (dis l)))) (h2 : sget s k1 = some (.cells [.d (.int .i64 (x : Nat))])) (hl : l.length ≤ 1000000) :
  z12 { s := s, next := nx, low := lw } key 1 false 8 (.arr k 1 false 0 l.length) (.arr k1 1 false 0 1) = some (.arr key 1 false 0 (l ++ [x]).length, { s := (key, .cells (scs (dis (l ++ [x])))) :: sdel s k, next := nx, low := Nat.min lw k }) := by
 rw [zo2 (n := l.length) (m := 1) (ds := dis l) (es := [.int .i64 (x : Nat)]) h1 h2 zrf rfl dis_len.symm rfl (by simp [dis_len]; omega) (by simp [dis_len]; omega), ← zv3]
 simp
structure Gd (ns : List NodeT) : Prop where
 len : ns.length ≤ 60
 kids : ∀ i, i < ns.length → (nd ns i).kids.length ≤ 4
 low : ∀ i, i < ns.length → ∀ k ∈ (nd ns i).kids, 0 ≤ k ∧ k < ns.length
theorem Gd.rt {ns : List NodeT} (h : Gd ns) : Rt ns := by
 intro i hi k hk
 unfold kds at hk
 obtain ⟨q, hq, rfl⟩ := List.mem_map.1 hk
 have := h.low i hi q hq
 omega
theorem Gd.at_ {ns : List NodeT} (h : Gd ns) {i j : Nat} (hi : i < ns.length) (hj : j < ns[i].kids.length) : ns[i].kids[j] = (kid ns i j : Nat) ∧ kid ns i j < ns.length := by
 have hj' : j < (nd ns i).kids.length := by rw [z2j hi]; exact hj
 have e : kid ns i j = ns[i].kids[j].toNat := by
  unfold Go.Lift.K.kid kds
  rw [List.getD_eq_getElem?_getD, List.getElem?_eq_getElem (by rw [List.length_map]; exact hj'), Option.getD_some, List.getElem_map]
  simp only [z2j hi]
 have hm : ns[i].kids[j] ∈ (nd ns i).kids := by rw [z2j hi]; exact List.getElem_mem hj
 have := h.low i hi _ hm
 rw [e]
 omega
theorem zuf {ns : List NodeT} {x k : Nat} (hx : x < ns.length) (hk : k < ns[x].kids.length) : (kds ns x).take (k + 1) = (kds ns x).take k ++ [kid ns x k] := by
 have : k < (kds ns x).length := by rw [z31, z2j hx]; exact hk
 rw [z4j this]
 unfold kid
 rw [List.getD_eq_getElem?_getD, List.getElem?_eq_getElem this, Option.getD_some]
end Go.Lift.K
namespace Go.Lift.K
open Go Go.Lift Classical
set_option maxRecDepth 100000
noncomputable def nxs (E : Nat → Nat → Prop) (L : List Nat) (i N : Nat) : List D := (List.range N).map fun x => D.int .i64 (if x ∈ L.take i then ((cls E (reps E L) x : Nat) : Int) else -1)
theorem z83 {E : Nat → Nat → Prop} {L : List Nat} {i N : Nat} : (nxs E L i N).length = N := by simp [nxs]
theorem y1l {E : Nat → Nat → Prop} {L : List Nat} {i N : Nat} : (nxs E L i N).all D.sc = true := by simp [nxs, D.sc]
theorem zp3 {E : Nat → Nat → Prop} {L : List Nat} {i N : Nat} (hi : i < L.length) : (nxs E L i N).set L[i] (.int .i64 ((cls E (reps E L) L[i] : Nat) : Int)) = nxs E L (i + 1) N := by
 apply List.ext_getElem
 ·simp [z83]
 ·intro q h1 h2
  have hq : q < N := by simpa [z83] using h1
  rw [List.getElem_set]
  simp only [nxs, List.getElem_map, List.getElem_range]
  rw [z4j hi]
  by_cases e : L[i] = q
  ·rw [if_pos e, if_pos (by simp [e]), ← e]
  ·rw [if_neg e]
   have : q ∈ L.take i ++ [L[i]] ↔ q ∈ L.take i := by rw [List.mem_append, List.mem_singleton]; exact ⟨fun h => h.resolve_right (fun h => e h.symm), .inl⟩
   simp only [this]
def fls (i N : Nat) : List D := (List.range N).map fun x => D.int .i64 (if x < i then -1 else 0)
theorem zau {i N : Nat} : (fls i N).length = N := by simp [fls]
theorem zur {N : Nat} : List.replicate N (D.int .i64 0) = fls 0 N := by
 apply List.ext_getElem
 ·simp [zau]
 ·intro q h1 h2; simp [fls]
theorem zzl {i N : Nat} (hi : i < N) : (fls i N).set i (.int .i64 (-1)) = fls (i + 1) N := by
 apply List.ext_getElem
 ·simp [zau]
 ·intro q h1 h2
  rw [List.getElem_set]
  simp only [fls, List.getElem_map, List.getElem_range]
  by_cases e : i = q
  ·subst e; simp
  ·rw [if_neg e]
   by_cases h : q < i
   ·rw [if_pos h, if_pos (by omega)]
   ·rw [if_neg h, if_neg (by omega)]
theorem zzm {E : Nat → Nat → Prop} {L : List Nat} {N : Nat} : fls N N = nxs E L 0 N := by
 apply List.ext_getElem
 ·simp [zau, z83]
 ·intro q h1 h2
  have hq : q < N := by simpa [zau] using h1
  simp [fls, nxs, hq]
noncomputable def nows (ns : List NodeT) (L : List Nat) (j : Nat) : List D := match j with
 | 0 => List.replicate ns.length (D.int .i64 0)
 | j + 1 => nxs (ap ns ns (j + 1)) L L.length ns.length
theorem zjb {ns : List NodeT} {L : List Nat} {j : Nat} : (nows ns L j).length = ns.length := by
 cases j <;> simp [nows, z83]
theorem zyk {ns : List NodeT} {L : List Nat} {j x : Nat} (hx : x ∈ L) (hn : x < ns.length) : (nows ns L j)[x]'(by rw [zjb]; exact hn) = .int .i64 ((cls (ap ns ns j) (reps (ap ns ns j) L) x : Nat) : Int) := by
 cases j with
 | zero =>
  have : cls (ap ns ns 0) (reps (ap ns ns 0) L) x = 0 := by
   obtain ⟨r, hr, _⟩ := z2e (E := ap ns ns 0) (fun _ => z8g) hx
   cases h : reps (ap ns ns 0) L with
   | nil => rw [h] at hr; cases hr
   | cons a l => rw [z58, if_pos (show ap ns ns 0 a x from trivial)]
  simp [nows, this]
 | succ j =>
  simp only [nows, nxs, List.getElem_map, List.getElem_range, List.take_length]
  rw [if_pos hx]
noncomputable def kvs (ns : List NodeT) (L : List Nat) (j x i : Nat) : List D := (List.range 4).map fun q => D.int .i64 (if q < i then ((cls (ap ns ns j) (reps (ap ns ns j) L) (kid ns x q) : Nat) : Int) else 0)
theorem zdk {ns : List NodeT} {L : List Nat} {j x i : Nat} : (kvs ns L j x i).length = 4 := by simp [kvs]
theorem zua {ns : List NodeT} {L : List Nat} {j x : Nat} : kvs ns L j x 0 = [.int .i64 0, .int .i64 0, .int .i64 0, .int .i64 0] := by simp [kvs, List.range, List.range.loop]
theorem zz5 {ns : List NodeT} {L : List Nat} {j x i : Nat} (hi : i < 4) : (kvs ns L j x i).set i (.int .i64 ((cls (ap ns ns j) (reps (ap ns ns j) L) (kid ns x i) : Nat) : Int)) = kvs ns L j x (i + 1) := by
 apply List.ext_getElem
 ·simp [zdk]
 ·intro q h1 h2
  rw [List.getElem_set]
  simp only [kvs, List.getElem_map, List.getElem_range]
  by_cases e : i = q
  ·subst e; simp
  ·rw [if_neg e]
   by_cases h : q < i
   ·rw [if_pos h, if_pos (by omega)]
   ·rw [if_neg h, if_neg (by omega)]
noncomputable def shk (ns : List NodeT) (L : List Nat) (j x : Nat) : D := .agg (.str (nd ns x).name :: .int .i64 ((nd ns x).kids.length : Nat) :: kvs ns L j x (nd ns x).kids.length)
theorem znw {ns : List NodeT} {L : List Nat} (hg : Gd ns) (hL : ∀ x ∈ L, x < ns.length) (hc : ∀ x ∈ L, ∀ k ∈ kds ns x, k ∈ L) {j x y : Nat} (hx : x ∈ L) (hy : y ∈ L) : shk ns L j x = shk ns L j y ↔ ap ns ns (j + 1) x y := by
 unfold shk
 have kat : ∀ z q n, q < 4 → (kvs ns L j z n)[q]? = some (.int .i64 (if q < n then ((cls (ap ns ns j) (reps (ap ns ns j) L) (kid ns z q) : Nat) : Int) else 0)) := by
  intro z q n hq
  simp [kvs, hq]
 constructor
 ·intro h
  injection h with h
  injection h with h1 h2
  injection h2 with h2 h3
  injection h1 with h1
  injection h2 with _ h2
  have h2 : (nd ns x).kids.length = (nd ns y).kids.length := by omega
  refine ⟨h1, h2, fun q hq => ?_⟩
  have hq4 : q < 4 := Nat.lt_of_lt_of_le hq (hg.kids x (hL x hx))
  have e := congrArg (·[q]?) h3
  simp only [kat _ _ _ hq4, if_pos hq, if_pos (h2 ▸ hq), Option.some.injEq, D.int.injEq, true_and] at e
  exact (y01 z6i (hc x hx _ (z3h hq)) (hc y hy _ (z3h (h2 ▸ hq)))).1 (by omega)
 ·rintro ⟨h1, h2, h3⟩
  rw [h1, h2]
  have : kvs ns L j x (nd ns y).kids.length = kvs ns L j y (nd ns y).kids.length := by
   unfold kvs
   apply List.map_congr_left
   intro q _
   by_cases hq : q < (nd ns y).kids.length
   ·rw [if_pos hq, if_pos hq, ze8 z6i (h3 q (h2 ▸ hq))]
   ·rw [if_neg hq, if_neg hq]
  rw [this]
def Mp (ns : List NodeT) (L : List Nat) (j i : Nat) (es : List (D × V)) : Prop :=
 es.length = (reps (ap ns ns (j + 1)) (L.take i)).length ∧ ∀ x ∈ L, z1s es (shk ns L j x) = if ∃ r ∈ reps (ap ns ns (j + 1)) (L.take i), ap ns ns (j + 1) r x then some (.d (.int .i64 ((cls (ap ns ns (j + 1)) (reps (ap ns ns (j + 1)) L) x : Nat) : Int))) else none
theorem zoi {k : D} {v : V} : ∀ {es : List (D × V)}, z1s es k = none → (z22 es k v).length = es.length + 1
 | [], _ => rfl
 | (a, u) :: r, h => by
  simp only [z1s] at h
  split at h
  ·cases h
  ·rename_i hne
   simp only [z22]
   rw [if_neg hne]
   simp [zoi h]
theorem y1u {ns : List NodeT} {L : List Nat} {j : Nat} : Mp ns L j 0 [] := ⟨rfl, fun x _ => by
 rw [if_neg (by rintro ⟨r, hr, _⟩; cases hr)]; rfl⟩
section
variable {ns : List NodeT} {L : List Nat} {j i : Nat} {es : List (D × V)}
theorem y1t (hi : i < L.length) (h : Mp ns L j i es) (ho : ∃ r ∈ reps (ap ns ns (j + 1)) (L.take i), ap ns ns (j + 1) r L[i]) : Mp ns L j (i + 1) es := by
 have e := z3a (E := ap ns ns (j + 1)) z6i hi
 rw [if_pos ho] at e
 unfold Mp
 rw [e]
 exact h
theorem zwn (hi : i < L.length) (ho : ¬ ∃ r ∈ reps (ap ns ns (j + 1)) (L.take i), ap ns ns (j + 1) r L[i]) : cls (ap ns ns (j + 1)) (reps (ap ns ns (j + 1)) L) L[i] = (reps (ap ns ns (j + 1)) (L.take i)).length := by
 have e := z3a (E := ap ns ns (j + 1)) z6i hi
 rw [if_neg ho] at e
 obtain ⟨m, hm⟩ := zd3 (E := ap ns ns (j + 1)) (l := L) (i := i + 1)
 rw [hm, zi2 (by rw [e]; exact ⟨L[i], by simp, z8g⟩), e, zrn ho z8g]
theorem y1v (hg : Gd ns) (hL : ∀ x ∈ L, x < ns.length) (hc : ∀ x ∈ L, ∀ k ∈ kds ns x, k ∈ L) (hi : i < L.length) (h : Mp ns L j i es) (ho : ¬ ∃ r ∈ reps (ap ns ns (j + 1)) (L.take i), ap ns ns (j + 1) r L[i]) :
  Mp ns L j (i + 1) (z22 es (shk ns L j L[i]) (.d (.int .i64 (es.length : Nat)))) := by
 have e := z3a (E := ap ns ns (j + 1)) z6i hi
 rw [if_neg ho] at e
 have hm := List.getElem_mem hi
 have hn := h.2 _ hm
 rw [if_neg ho] at hn
 refine ⟨by rw [zoi hn, e, h.1]; simp, fun x hx => ?_⟩
 rw [z4n, e, h.2 x hx]
 by_cases hb : D.beq (shk ns L j L[i]) (shk ns L j x) = true
 ·have hs := (znw hg hL hc hm hx).1 (D.eq_of_beq hb)
  rw [if_pos hb, if_pos ⟨L[i], by simp, hs⟩, ← ze8 z6i hs, zwn hi ho, h.1]
 ·have hs : ¬ ap ns ns (j + 1) L[i] x := fun k => hb (by rw [(znw hg hL hc hm hx).2 k]; exact D.beq_refl _)
  rw [if_neg hb]
  have : (∃ r ∈ reps (ap ns ns (j + 1)) (L.take i) ++ [L[i]], ap ns ns (j + 1) r x) ↔ ∃ r ∈ reps (ap ns ns (j + 1)) (L.take i), ap ns ns (j + 1) r x := by
   constructor
   ·rintro ⟨r, hr, hk⟩
    rcases List.mem_append.1 hr with hr | hr
    ·exact ⟨r, hr, hk⟩
    ·rw [List.mem_singleton] at hr; subst hr; exact absurd hk hs
   ·rintro ⟨r, hr, hk⟩
    exact ⟨r, by simp [hr], hk⟩
  simp only [this]
end
theorem zts {ds : List D} : mkAgg (ds.map V.d) = .d (.agg ds) := by
 unfold mkAgg
 have : allD (ds.map V.d) = some ds := by
  induction ds with
  | nil => rfl
  | cons x ds ih => simp [allD, ih]
 rw [this]
end Go.Lift.K
namespace Go.Lift.K
open Go Go.Lift
set_option maxRecDepth 100000
theorem zmm {ns : List NodeT} (hg : Gd ns) {r : Nat} (hr : r < ns.length) (st : St) : z06 G (.fn 66 [] []) [.d (.sl (ns.map NodeT.d)), .d (.sl (dis [r]))] st = some (.d (.sl (dis (z2z ns r))), st) := by
 have hn := hg.rt
 have hl := hg.len
 have hrun := za2 hn hr
 have hmk := fun (key : Nat) (st : St) => zey (key := key) (eb := 1) (n := ns.length) (x := .bool false) (st := st) rfl (by omega) (by omega)
 have hm0 := zyt (n := ns.length)
 have h1l : (dis [r]).length = 1 := rfl
 have hir : z0a 1 (.d (.sl (dis [r]))) 0 = some (.dptr [.int .i64 (r : Nat)]) := z7j (l := [r]) (i := 0) (by simp)
 have hat0 := zbu (ds := mbs ns.length []) (i := r) (by rw [z6r]; exact hr)
 have hst0 := z6m (ds := mbs ns.length []) (x := .bool true) (i := r) (by rw [z6r]; exact hr)
 have hap := fun (s : List (Nat × Obj)) (nx lw key k1 : Nat) (h : sget s k1 = some (.cells [.d (.int .i64 (r : Nat))])) => ziu (s := s) (nx := nx) (lw := lw) (key := key) (k1 := k1) (eb := 8) (m := 1) (es := dis [r]) h rfl (by simp [dis]) rfl (by simp [dis]) (by simp [dis])
 refine z15 (ds := [.sl (ns.map NodeT.d), .sl (dis [r])]) (rs := [.sl (dis (z2z ns r))]) T1.g66 rfl rfl (fun e w_len harg => ?_) st
 have w_len : e.length = 69 := w_len
 have w_0 := harg 0 (by simp)
 have w_1 := harg 1 (by simp)
 clear harg
 simp only [List.map_cons, List.map_nil, List.getD_cons_zero, List.getD_cons_succ] at w_0 w_1
 simp only [T1.i66, hmk, hm0, h1l, w_len, w_0, w_1, ↓LA, LB, simprocAttr]
 refine zpl ?_
 simp only [hir, z5n hr, hat0, zfk hr, List.not_mem_nil, hst0, zpg hr, w_len, ↓LA, LB, simprocAttr]
 rw [hap _ _ _ _ _ z02]
 simp only [w_len, ↓LA, LB, simprocAttr]
 have w_x1 : scs (dis [r]) = [.d (.int .i64 (r : Nat))] := rfl
 refine z0e (fun e0 s0 m env st => ∃ (i nxi lwi : Nat) (si : List (Nat × Obj)) (ka : Nat) (o : List Nat), m = ns.length + 1 - i ∧ (i ≤ ns.length + 1) ∧ (4 ≤ ka) ∧ (ka < nxi) ∧ (Run Eq ns i o (z2z ns r)) ∧ (o.Nodup) ∧ (∀ x ∈ o, x < ns.length) ∧ sget si (3) = some (.cells (scs (mbs ns.length o))) ∧ sget si (ka) = some (.cells (scs (dis o))) ∧ 4 ≤ nxi ∧ 0 ≤ lwi ∧ env.length = 69 ∧ env.getD 9 .undef = .d (.int .i64 i) ∧ env.getD 0 .undef = .d (.sl (ns.map NodeT.d)) ∧ env.getD 5 .undef = .arr 3 1 false 0 ns.length ∧ env.getD 6 .undef = .arr ka 1 false 0 o.length ∧ env.getD 15 .undef = .d (.sl (dis [r])) ∧ env.getD 16 .undef = .d (.int .i64 1) ∧ env.getD 17 .undef = .d (.int .i64 0) ∧ st = { s := si, next := nxi, low := lwi }) ?_ (ns.length + 1) (by refine ⟨0, _, _, _, 28, [r], rfl, by omega, by omega, by omega, hrun, by simp, by simpa using hr, ?_, ?_, (by omega), Nat.zero_le _, ?_, ?_, ?_, ?_, ?_, ?_, ?_, ?_, rfl⟩ <;> simp only [w_len, w_0, w_x1, LB, simprocAttr])
 rintro m env st ⟨i, nxi, lwi, si, ka, o, hm, a_0, a_1, a_2, a_3, a_4, a_5, w_ac0, w_ac1, w_ab, w_alo, w_len, w_9, w_0, w_5, w_6, w_15, w_16, w_17, rfl⟩
 have w_aN := aI (cf1 (x := nxi) (a := 3) (by omega)) (cf1 (x := nxi) (a := ka) (by omega))
 have w_aS := aI (cf2 (x := nxi) (by omega) w_ac0) (cf2 (x := nxi) (by omega) w_ac1)
 have w_aZ := zf0 (x := nxi) (n := 4) (by omega)
 have hol := z55 a_4 a_5
 by_cases hi : i < o.length
 ·have hx := a_5 o[i] (List.getElem_mem hi)
  simp only [hi, z5n hi, zbu (dis_len ▸ hi), y2r hi, z32 hx, w_len, w_9, w_0, w_6, w_ac1, ↓LA, LB, simprocAttr]
  refine z0e (fun e0 s0 m env st => ∃ (k nxk lwk : Nat) (sk : List (Nat × Obj)) (kb : Nat) (p : List Nat), m = ns[o[i]].kids.length - k ∧ (k ≤ ns[o[i]].kids.length) ∧ (4 ≤ kb) ∧ (kb < nxk) ∧ (p = addE Eq o ((kds ns o[i]).take k)) ∧ sget sk (3) = some (.cells (scs (mbs ns.length p))) ∧ sget sk (kb) = some (.cells (scs (dis p))) ∧ 4 ≤ nxk ∧ 0 ≤ lwk ∧ env.length = 69 ∧ env.getD 50 .undef = .d (.int .i64 k) ∧ env.getD 0 .undef = .d (.sl (ns.map NodeT.d)) ∧ env.getD 5 .undef = .arr 3 1 false 0 ns.length ∧ env.getD 6 .undef = .arr kb 1 false 0 p.length ∧ env.getD 9 .undef = .d (.int .i64 i) ∧ env.getD 15 .undef = .d (.sl (dis [r])) ∧ env.getD 16 .undef = .d (.int .i64 1) ∧ env.getD 17 .undef = .d (.int .i64 0) ∧ env.getD 48 .undef = .d (.sl (ns[o[i]].kids.map (D.int .i64))) ∧ env.getD 49 .undef = .d (.int .i64 ns[o[i]].kids.length) ∧ st = { s := sk, next := nxk, low := lwk }) ?_ (ns[o[i]].kids.length) (by refine ⟨0, _, _, _, ka, o, rfl, by omega, by omega, by omega, by simp [addE], ?_, ?_, (by omega), Nat.zero_le _, ?_, ?_, ?_, ?_, ?_, ?_, ?_, ?_, ?_, ?_, ?_, rfl⟩ <;> simp only [w_len, w_9, w_0, w_5, w_6, w_15, w_16, w_17, w_ac0, w_ac1, LB, simprocAttr])
  rintro m env st ⟨k, nxk, lwk, sk, kb, p, hm, b_0, b_1, b_2, b_3, w_bc0, w_bc1, w_bb, w_blo, w_len, w_50, w_0, w_5, w_6, w_9, w_15, w_16, w_17, w_48, w_49, rfl⟩
  have w_bN := aI (cf1 (x := nxk) (a := 3) (by omega)) (cf1 (x := nxk) (a := kb) (by omega))
  have w_bS := aI (cf2 (x := nxk) (by omega) w_bc0) (cf2 (x := nxk) (by omega) w_bc1)
  have w_bZ := zf0 (x := nxk) (n := 4) (by omega)
  have hkl := hg.kids _ hx
  rw [z2j hx] at hkl
  have hpn : p.Nodup := by rw [b_3]; exact z84 a_4
  have hpl : ∀ x ∈ p, x < ns.length := fun x hx' => by
   rw [b_3] at hx'
   exact (z69 hx').elim (a_5 x) fun h => hn _ hx x (List.mem_of_mem_take h)
  have hpo := z55 hpn hpl
  by_cases hk : k < ns[o[i]].kids.length
  ·obtain ⟨hke, hkn⟩ := hg.at_ hx hk
   have hkt := zuf hx hk
   have hat := zbu (ds := mbs ns.length p) (i := kid ns o[i] k) (by rw [z6r]; exact hkn)
   have hst := z6m (ds := mbs ns.length p) (x := .bool true) (i := kid ns o[i] k) (by rw [z6r]; exact hkn)
   by_cases hm' : kid ns o[i] k ∈ p
   ·simp only [hk, z3c hk, hke, z5n hkn, hat, zfk hkn, hm', z08 hk (by omega), w_len, w_50, w_5, w_48, w_49, w_bc0, ↓LA, LB, simprocAttr]
    exact z0c (by refine ⟨_, by omega, k + 1, _, _, _, kb, p, rfl, by omega, by omega, by omega, by rw [hkt, zgn, ← b_3, z2k ⟨_, hm', rfl⟩]; rfl, ?_, ?_, (by omega), Nat.zero_le _, ?_, ?_, ?_, ?_, ?_, ?_, ?_, ?_, ?_, ?_, ?_, rfl⟩ <;> simp only [w_len, w_0, w_5, w_6, w_9, w_15, w_16, w_17, w_48, w_49, w_bc0, w_bc1, LB, simprocAttr])
   ·have w_sd : ∀ s j, (kb = j) = False → sget (sdel s kb) j = sget s j := fun s j h => zgv h
    have w_k0 : (kb = 3) = False := by simp; omega
    have w_k1 : ((3 : Nat) = kb) = False := by simp; omega
    simp only [hk, z3c hk, hke, z5n hkn, hat, zfk hkn, hm', hst, zpg hkn, w_len, w_50, w_5, w_6, w_48, w_49, w_bc0, ↓LA, LB, simprocAttr]
    rw [zzu (x := kid ns o[i] k) (by rw [z00 (by omega), z03 (by omega)]; exact w_bc1) z02 (by omega)]
    simp only [z08 hk (by omega), w_len, w_50, w_bN, ↓LA, LB, simprocAttr]
    exact z0c (by refine ⟨_, by omega, k + 1, _, _, _, nxk + 16, p ++ [kid ns o[i] k], rfl, by omega, by omega, by omega, by rw [hkt, zgn, ← b_3, z1m (by rintro ⟨q, h1, rfl⟩; exact hm' h1)]; rfl, ?_, ?_, (by omega), Nat.zero_le _, ?_, ?_, ?_, ?_, ?_, ?_, ?_, ?_, ?_, ?_, ?_, rfl⟩ <;> simp only [w_len, w_0, w_5, w_9, w_15, w_16, w_17, w_48, w_49, w_bN, w_bS, w_sd, w_k0, LB, simprocAttr])
  ·have hkf : (kds ns o[i]).take k = kds ns o[i] := List.take_of_length_le (by rw [z31, z2j hx]; omega)
   rw [hkf] at b_3
   have hr' := a_3.next hi
   rw [← b_3] at hr'
   simp only [hk, z08 hi (by omega), w_len, w_50, w_9, w_49, ↓LA, LB, simprocAttr]
   exact z0c (by refine ⟨_, by omega, i + 1, _, _, _, kb, p, rfl, by omega, by omega, by omega, hr', hpn, hpl, ?_, ?_, (by omega), Nat.zero_le _, ?_, ?_, ?_, ?_, ?_, ?_, ?_, ?_, rfl⟩ <;> simp only [w_len, w_0, w_5, w_6, w_15, w_16, w_17, w_bc0, w_bc1, LB, simprocAttr])
 ·rw [a_3.end_ hi]
  have hw1 : IntKind.i64.wrap (1 : Int) = 1 := z3f (by omega) (by omega)
  simp only [hi, hw1, w_len, w_9, w_6, w_17, ↓LA, LB, simprocAttr]
  refine zpl ?_
  simp only [w_len, w_6, w_16, ↓LA, LB, simprocAttr]
  exact rql1 (zv4 w_ac1) rfl
end Go.Lift.K
namespace Go.Lift.K
open Go Go.Lift
set_option maxRecDepth 100000
theorem znv {a b : V} {l : List D} {i : Nat} {x : D} (h : i < l.length) : (2 + (i + 1) ≤ (scs l).length + 2) = True ∧ (a :: b :: scs l).take (2 + i) ++ [.d x] ++ (a :: b :: scs l).drop (2 + (i + 1)) = a :: b :: scs (l.set i x) := by
 refine ⟨eq_true (by simp [z4d]; omega), ?_⟩
 have e1 : 2 + i = i + 1 + 1 := by omega
 have e2 : 2 + (i + 1) = i + 1 + 1 + 1 := by omega
 rw [e2, e1, List.take_succ_cons, List.take_succ_cons, List.drop_succ_cons, List.drop_succ_cons, List.cons_append, List.cons_append, List.cons_append, List.cons_append, (z6m h).2]
theorem zt4 {x y : D} {l : List D} (h : l.length = 4) : (4 ≤ (scs l).length) = True ∧ List.take 4 (scs l) = scs l ∧ mkAgg (V.d x :: V.d y :: scs l) = .d (.agg (x :: y :: l)) := ⟨eq_true (by simp [z4d, h]), List.take_of_length_le (by simp [z4d, h]), zts (ds := x :: y :: l)⟩
theorem y4c {l : List D} (h4 : l.length = 4) (h : ∀ x ∈ l, ∃ n : Int, x = .int .i64 n ∧ 0 ≤ n ∧ n ≤ 60) : conf [.i .i64, .i .i64, .i .i64, .i .i64] l = true := by
 match l, h4 with
 | [a, b, c, d], _ =>
  have e1 : IntKind.i64.min = -9223372036854775808 := by decide
  have e2 : IntKind.i64.max = 9223372036854775807 := by decide
  obtain ⟨n1, rfl, h1, k1⟩ := h a (by simp)
  obtain ⟨n2, rfl, h2, k2⟩ := h b (by simp)
  obtain ⟨n3, rfl, h3, k3⟩ := h c (by simp)
  obtain ⟨n4, rfl, h4, k4⟩ := h d (by simp)
  simp [conf, z7q, e1, e2]
  omega
theorem y2y {E : Nat → Nat → Prop} {L : List Nat} {x : Nat} : cls E (reps E L) x ≤ L.length := Nat.le_trans (by unfold cls; exact List.findIdx_le_length) z6o
theorem zt5 {ns : List NodeT} {L : List Nat} {j x : Nat} (h1 : (nd ns x).name.length ≤ 8) (h2 : (nd ns x).kids.length ≤ 4) (h3 : L.length ≤ 60) : z2g true [.s, .i .i64, .i .i64, .i .i64, .i .i64, .i .i64] (shk ns L j x) = true := by
 have e1 : IntKind.i64.min = -9223372036854775808 := by decide
 have e2 : IntKind.i64.max = 9223372036854775807 := by decide
 have := y4c (l := kvs ns L j x (nd ns x).kids.length) zdk (fun y hy => by
  unfold kvs at hy
  obtain ⟨q, _, rfl⟩ := List.mem_map.1 hy
  refine ⟨_, rfl, ?_⟩
  have := y2y (E := ap ns ns j) (L := L) (x := kid ns x q)
  split <;> omega)
 unfold shk
 simp only [z2g, conf, this, z7q, e1, e2, Bool.and_true, Bool.true_and, Bool.and_eq_true, decide_eq_true_eq, decide_true]
 omega
set_option maxHeartbeats 4000000 in
theorem zmj {ns : List NodeT} (hg : Gd ns) (hnm : ∀ i, i < ns.length → (nd ns i).name.length ≤ 8) {r : Nat} (hr : r < ns.length) (st : St) :
  z06 G (.fn 67 [] []) [.d (.sl (ns.map NodeT.d)), .d (.sl (dis (z2z ns r)))] st = some (.tup [.d (.sl (nxs (bis ns ns) (z2z ns r) (z2z ns r).length ns.length)), .d (.int .i64 ((z1x ns r).length : Nat))], st) := by
 have hn := hg.rt
 have hl := hg.len
 obtain ⟨hnd, hlt, hcl, hhd⟩ := z1v hn hr
 have hrl := zf9 hn hr
 obtain ⟨L, hL⟩ : ∃ L, L = z2z ns r := ⟨_, rfl⟩
 rw [← hL] at hnd hlt hcl hhd hrl ⊢
 have hL1 : 1 ≤ L.length := by obtain ⟨m, hm⟩ := hhd; rw [hm]; simp
 have hLr : (z1x ns r) = reps (bis ns ns) L := by rw [hL]; rfl
 have h0 : (reps (ap ns ns 0) L).length = 1 := by
  obtain ⟨m, hm⟩ := hhd
  rw [hm]
  have : ∀ (m o : List Nat), o ≠ [] → addE (ap ns ns 0) o m = o := fun m o ho => zek fun k _ => by
   cases o with
   | nil => exact absurd rfl ho
   | cons a l => exact ⟨a, by simp, trivial⟩
  unfold reps
  rw [z1m (by simp), this _ _ (by simp)]; rfl
 have hmk := fun (key : Nat) (st : St) => zey (key := key) (eb := 8) (n := ns.length) (x := .int .i64 0) (st := st) rfl (by omega) (by omega)
 have hf0 := zur (N := ns.length)
 refine z15 (ds := [.sl (ns.map NodeT.d), .sl (dis L)]) (rs := [.sl (nxs (bis ns ns) L L.length ns.length), .int .i64 ((z1x ns r).length : Nat)]) T1.g67 rfl rfl (fun e w_len harg => ?_) st
 have w_len : e.length = 98 := w_len
 have w_0 := harg 0 (by simp)
 have w_1 := harg 1 (by simp)
 clear harg
 simp only [List.map_cons, List.map_nil, List.getD_cons_zero, List.getD_cons_succ] at w_0 w_1
 simp only [T1.i67, hmk, w_len, w_0, ↓LA, LB, simprocAttr]
 have w_x1 : nows ns L 0 = List.replicate ns.length (D.int .i64 0) := rfl
 refine z0e (fun e0 s0 m env st => ∃ (c nxc lwc : Nat) (sc : List (Nat × Obj)) (kn j : Nat), m = L.length - c ∧ (c ≤ L.length) ∧ (kn < nxc) ∧ (c = (reps (ap ns ns j) L).length) ∧ sget sc (kn) = some (.cells (scs (nows ns L j))) ∧ 5 ≤ nxc ∧ 0 ≤ lwc ∧ env.length = 98 ∧ env.getD 7 .undef = .d (.int .i64 c) ∧ env.getD 0 .undef = .d (.sl (ns.map NodeT.d)) ∧ env.getD 1 .undef = .d (.sl (dis L)) ∧ env.getD 6 .undef = .arr kn 1 false 0 ns.length ∧ st = { s := sc, next := nxc, low := lwc }) ?_ (L.length - 1) (by refine ⟨1, _, _, _, 4, 0, rfl, by omega, by omega, h0.symm, ?_, (by omega), Nat.zero_le _, ?_, ?_, ?_, ?_, ?_, rfl⟩ <;> simp only [w_len, w_0, w_1, w_x1, LB, simprocAttr])
 rintro m env st ⟨c, nxc, lwc, sc, kn, j, hm, a_0, a_1, a_2, w_ac0, w_ab, w_alo, w_len, w_7, w_0, w_1, w_6, rfl⟩
 have w_aN := cf1 (x := nxc) (a := kn) (by omega)
 have w_aS := cf2 (x := nxc) (by omega) w_ac0
 have w_aZ := zf0 (x := nxc) (n := 5) (by omega)
 simp only [hmk, hf0, w_len, w_0, ↓LA, LB, simprocAttr]
 refine z0e (fun e0 s0 m env st => ∃ (q nxq lwq : Nat) (sq : List (Nat × Obj)), m = ns.length - q ∧ (q ≤ ns.length) ∧ sget sq (kn) = some (.cells (scs (nows ns L j))) ∧ sget sq (nxc + 2) = some (.cells (scs (fls q ns.length))) ∧ nxc + 4 ≤ nxq ∧ 0 ≤ lwq ∧ env.length = 98 ∧ env.getD 26 .undef = .d (.int .i64 q) ∧ env.getD 0 .undef = .d (.sl (ns.map NodeT.d)) ∧ env.getD 1 .undef = .d (.sl (dis L)) ∧ env.getD 6 .undef = .arr kn 1 false 0 ns.length ∧ env.getD 7 .undef = .d (.int .i64 c) ∧ env.getD 8 .undef = .arr (nxc + 2) 1 false 0 ns.length ∧ env.getD 25 .undef = .d (.int .i64 ns.length) ∧ st = { s := sq, next := nxq, low := lwq }) ?_ (ns.length) (by refine ⟨0, _, _, _, rfl, by omega, ?_, ?_, (by omega), Nat.zero_le _, ?_, ?_, ?_, ?_, ?_, ?_, ?_, ?_, rfl⟩ <;> simp only [w_len, w_7, w_0, w_1, w_6, w_ac0, w_aN, LB, simprocAttr])
 rintro m env st ⟨q, nxq, lwq, sq, hm, f_0, w_fc0, w_fc1, w_fb, w_flo, w_len, w_26, w_0, w_1, w_6, w_7, w_8, w_25, rfl⟩
 have w_fN := aI (cf1 (x := nxq) (a := kn) (by omega)) (cf1 (x := nxq) (a := nxc + 2) (by omega))
 have w_fS := aI (cf2 (x := nxq) (by omega) w_fc0) (cf2 (x := nxq) (by omega) w_fc1)
 have w_fZ := zf (x := nxq) (b := nxc) (n := 4) (by omega) (by omega)
 by_cases hq : q < ns.length
 ·have hst := z6m (ds := fls q ns.length) (x := .int .i64 (-1)) (i := q) (by rw [zau]; exact hq)
  simp only [hq, z5n hq, hst, zzl hq, z08 hq (by omega), w_len, w_26, w_8, w_25, w_fc1, ↓LA, LB, simprocAttr]
  exact z0c (by refine ⟨_, by omega, q + 1, _, _, _, rfl, by omega, ?_, ?_, (by omega), Nat.zero_le _, ?_, ?_, ?_, ?_, ?_, ?_, ?_, ?_, rfl⟩ <;> simp only [w_len, w_0, w_1, w_6, w_7, w_8, w_25, w_fc0, w_fS, w_aN, LB, simprocAttr])
 have hqe : q = ns.length := by omega
 subst hqe
 have hfa := zzm (E := ap ns ns (j + 1)) (L := L) (N := ns.length)
 rw [hfa] at w_fc1
 simp only [hq, dis_len, w_len, w_26, w_1, w_25, ↓LA, LB, simprocAttr]
 refine z0e (fun e0 s0 m env st => ∃ (i nxi lwi : Nat) (si : List (Nat × Obj)) (es : List (D × V)), m = L.length - i ∧ (i ≤ L.length) ∧ (Mp ns L j i es) ∧ sget si (kn) = some (.cells (scs (nows ns L j))) ∧ sget si (nxc + 2) = some (.cells (scs (nxs (ap ns ns (j + 1)) L i ns.length))) ∧ sget si (nxq + 1) = some (.map 206 es) ∧ nxq + 6 ≤ nxi ∧ 0 ≤ lwi ∧ env.length = 98 ∧ env.getD 36 .undef = .d (.int .i64 i) ∧ env.getD 0 .undef = .d (.sl (ns.map NodeT.d)) ∧ env.getD 1 .undef = .d (.sl (dis L)) ∧ env.getD 6 .undef = .arr kn 1 false 0 ns.length ∧ env.getD 7 .undef = .d (.int .i64 c) ∧ env.getD 8 .undef = .arr (nxc + 2) 1 false 0 ns.length ∧ env.getD 10 .undef = .map (nxq + 1) ∧ env.getD 34 .undef = .d (.sl (dis L)) ∧ env.getD 35 .undef = .d (.int .i64 L.length) ∧ st = { s := si, next := nxi, low := lwi }) ?_ (L.length) (by refine ⟨0, _, _, _, [], rfl, by omega, y1u, ?_, ?_, ?_, (by omega), Nat.zero_le _, ?_, ?_, ?_, ?_, ?_, ?_, ?_, ?_, ?_, ?_, rfl⟩ <;> simp only [w_len, w_0, w_1, w_6, w_7, w_8, w_fc0, w_fc1, w_fN, LB, simprocAttr])
 rintro m env st ⟨i, nxi, lwi, si, es, hm, g_0, g_1, w_gc0, w_gc1, w_gc2, w_gb, w_glo, w_len, w_36, w_0, w_1, w_6, w_7, w_8, w_10, w_34, w_35, rfl⟩
 have w_gN := aI (cf1 (x := nxi) (a := kn) (by omega)) (aI (cf1 (x := nxi) (a := nxc + 2) (by omega)) (cf1 (x := nxi) (a := nxq + 1) (by omega)))
 have w_gS := aI (cf2 (x := nxi) (by omega) w_gc0) (aI (cf2 (x := nxi) (by omega) w_gc1) (cf2 (x := nxi) (by omega) w_gc2))
 have w_gZ := aI (zf (x := nxi) (b := nxq) (n := 6) (by omega) (by omega)) (zf (x := nxi) (b := nxc) (n := 4) (by omega) (by omega))
 by_cases hi : i < L.length
 ·have hx := hlt L[i] (List.getElem_mem hi)
  have hkl := hg.kids _ hx
  rw [z2j hx] at hkl
  have w_x2 : ∀ a b : D, V.d a :: V.d b :: scs (kvs ns L j L[i] 0) = [V.d a, V.d b, .d (.int .i64 0), .d (.int .i64 0), .d (.int .i64 0), .d (.int .i64 0)] := fun a b => by rw [zua]; rfl
  simp only [hi, z7j hi, z32 hx, List.length_map, w_len, w_36, w_0, w_34, w_35, ↓LA, LB, simprocAttr]
  refine z0e (fun e0 s0 m env st => ∃ (k nxk lwk : Nat) (sk : List (Nat × Obj)), m = ns[L[i]].kids.length - k ∧ (k ≤ ns[L[i]].kids.length) ∧ sget sk (kn) = some (.cells (scs (nows ns L j))) ∧ sget sk (nxc + 2) = some (.cells (scs (nxs (ap ns ns (j + 1)) L i ns.length))) ∧ sget sk (nxq + 1) = some (.map 206 es) ∧ sget sk (nxi + 16) = some (.cells (.d (.str ns[L[i]].name) :: .d (.int .i64 ns[L[i]].kids.length) :: scs (kvs ns L j L[i] k))) ∧ nxi + 18 ≤ nxk ∧ 0 ≤ lwk ∧ env.length = 98 ∧ env.getD 58 .undef = .d (.int .i64 k) ∧ env.getD 0 .undef = .d (.sl (ns.map NodeT.d)) ∧ env.getD 1 .undef = .d (.sl (dis L)) ∧ env.getD 6 .undef = .arr kn 1 false 0 ns.length ∧ env.getD 7 .undef = .d (.int .i64 c) ∧ env.getD 8 .undef = .arr (nxc + 2) 1 false 0 ns.length ∧ env.getD 10 .undef = .map (nxq + 1) ∧ env.getD 12 .undef = .d (.int .i64 L[i]) ∧ env.getD 13 .undef = .ptr (nxi + 16) 0 ∧ env.getD 34 .undef = .d (.sl (dis L)) ∧ env.getD 35 .undef = .d (.int .i64 L.length) ∧ env.getD 36 .undef = .d (.int .i64 i) ∧ env.getD 56 .undef = .d (.sl (ns[L[i]].kids.map (D.int .i64))) ∧ env.getD 57 .undef = .d (.int .i64 ns[L[i]].kids.length) ∧ st = { s := sk, next := nxk, low := lwk }) ?_ (ns[L[i]].kids.length) (by refine ⟨0, _, _, _, rfl, by omega, ?_, ?_, ?_, ?_, (by omega), Nat.zero_le _, ?_, ?_, ?_, ?_, ?_, ?_, ?_, ?_, ?_, ?_, ?_, ?_, ?_, ?_, ?_, rfl⟩ <;> simp only [w_len, w_36, w_0, w_1, w_6, w_7, w_8, w_10, w_34, w_35, w_gc0, w_gc1, w_gc2, w_gN, w_x2, LB, simprocAttr])
  rintro m env st ⟨k, nxk, lwk, sk, hm, h_0, w_hc0, w_hc1, w_hc2, w_hc3, w_hb, w_hlo, w_len, w_58, w_0, w_1, w_6, w_7, w_8, w_10, w_12, w_13, w_34, w_35, w_36, w_56, w_57, rfl⟩
  have w_hN := aI (cf1 (x := nxk) (a := kn) (by omega)) (aI (cf1 (x := nxk) (a := nxc + 2) (by omega)) (aI (cf1 (x := nxk) (a := nxq + 1) (by omega)) (cf1 (x := nxk) (a := nxi + 16) (by omega))))
  have w_hS := aI (cf2 (x := nxk) (by omega) w_hc0) (aI (cf2 (x := nxk) (by omega) w_hc1) (aI (cf2 (x := nxk) (by omega) w_hc2) (cf2 (x := nxk) (by omega) w_hc3)))
  have w_hZ := aI (zf (x := nxk) (b := nxi) (n := 18) (by omega) (by omega)) (aI (zf (x := nxk) (b := nxq) (n := 6) (by omega) (by omega)) (zf (x := nxk) (b := nxc) (n := 4) (by omega) (by omega)))
  by_cases hk : k < ns[L[i]].kids.length
  ·obtain ⟨hke, hkn⟩ := hg.at_ hx hk
   have hkL : kid ns L[i] k ∈ L := hcl _ (List.getElem_mem hi) _ (z3h (by rw [z2j hx]; exact hk))
   have hat := zbu (ds := nows ns L j) (i := kid ns L[i] k) (by rw [zjb]; exact hkn)
   have hat2 := zyk (j := j) hkL hkn
   have h6 := znv (a := .d (.str ns[L[i]].name)) (b := .d (.int .i64 ns[L[i]].kids.length)) (l := kvs ns L j L[i] k) (i := k) (x := .int .i64 ((cls (ap ns ns j) (reps (ap ns ns j) L) (kid ns L[i] k) : Nat) : Int)) (by rw [zdk]; omega)
   have hia : z1j 4 1 (.ptr (nxi + 16) 2) (k : Int) = some (.ptr (nxi + 16) (2 + k)) := by
    simp only [z1j]
    rw [if_pos ⟨by omega, by omega⟩]
    simp
   simp only [hk, z3c hk, hke, z5n hkn, hat, hat2, hia, h6, zz5 (i := k) (by omega), z08 hk (by omega), w_len, w_58, w_6, w_13, w_56, w_57, w_hc0, w_hc3, ↓LA, LB, simprocAttr]
   exact z0c (by refine ⟨_, by omega, k + 1, _, _, _, rfl, by omega, ?_, ?_, ?_, ?_, (by omega), Nat.zero_le _, ?_, ?_, ?_, ?_, ?_, ?_, ?_, ?_, ?_, ?_, ?_, ?_, ?_, ?_, ?_, rfl⟩ <;> simp only [w_len, w_0, w_1, w_6, w_7, w_8, w_10, w_12, w_13, w_34, w_35, w_36, w_56, w_57, w_hc0, w_hc1, w_hc2, w_hS, w_gN, LB, simprocAttr])
  have hke : k = ns[L[i]].kids.length := by omega
  subst hke
  have hnl := hnm _ hx
  rw [z2j hx] at hnl
  have hsk : shk ns L j L[i] = .agg (.str ns[L[i]].name :: .int .i64 (ns[L[i]].kids.length : Nat) :: kvs ns L j L[i] ns[L[i]].kids.length) := by unfold shk; rw [z2j hx]
  have hcf := zt5 (ns := ns) (L := L) (j := j) (x := L[i]) (by rw [z2j hx]; exact hnl) (by rw [z2j hx]; exact hkl) (by omega)
  have hmp := g_1
  have h6 := zt4 (x := .str ns[L[i]].name) (y := .int .i64 (ns[L[i]].kids.length : Nat)) (l := kvs ns L j L[i] ns[L[i]].kids.length) zdk
  simp only [hk, h6, ← hsk, w_len, w_58, w_10, w_13, w_57, w_hc3, ↓LA, LB, simprocAttr]
  have hx0 : ∀ a b : V, [a, b][0]? = some a := fun _ _ => rfl
  have hx1 : ∀ a b : V, [a, b][1]? = some b := fun _ _ => rfl
  have hst := z6m (ds := nxs (ap ns ns (j + 1)) L i ns.length) (x := .int .i64 ((cls (ap ns ns (j + 1)) (reps (ap ns ns (j + 1)) L) L[i] : Nat) : Int)) (i := L[i]) (by rw [z83]; exact hx)
  have hget := hmp.2 L[i] (List.getElem_mem hi)
  by_cases ho : ∃ r ∈ reps (ap ns ns (j + 1)) (L.take i), ap ns ns (j + 1) r L[i]
  ·rw [if_pos ho] at hget
   have hlk := fun nx lw zero => z6s (nx := nx) (lw := lw) (zero := zero) hcf w_hc2 hget
   simp only [hlk, hx0, hx1, z5n hx, hst, zp3 hi, z08 hi (by omega), w_len, w_8, w_12, w_36, w_hc1, ↓LA, LB, simprocAttr]
   exact z0c (by refine ⟨_, by omega, i + 1, _, _, _, es, rfl, by omega, y1t hi hmp ho, ?_, ?_, ?_, (by omega), Nat.zero_le _, ?_, ?_, ?_, ?_, ?_, ?_, ?_, ?_, ?_, ?_, rfl⟩ <;> simp only [w_len, w_0, w_1, w_6, w_7, w_8, w_10, w_34, w_35, w_hc0, w_hc2, w_hS, w_fZ, w_aN, LB, simprocAttr])
  ·rw [if_neg ho] at hget
   have hlk := fun nx lw zero => z6t (nx := nx) (lw := lw) (zero := zero) hcf w_hc2 hget
   have hlen : es.length = cls (ap ns ns (j + 1)) (reps (ap ns ns (j + 1)) L) L[i] := hmp.1.trans (zwn hi ho).symm
   have hmn := y1v hg hlt hcl hi hmp ho
   rw [hlen] at hmn
   have hlm : ∀ nx lw, z4k { s := sk, next := nx, low := lw } (.map (nxq + 1)) = some (cls (ap ns ns (j + 1)) (reps (ap ns ns (j + 1)) L) L[i]) := fun nx lw => by rw [← hlen]; exact zjm w_hc2
   have hU := fun nx lw x => z4m (nx := nx) (lw := lw) (x := x) hcf w_hc2
   simp only [hlk, hx0, hx1, hlm, ↓zdw, hU, h6, ← hsk, z5n hx, hst, zp3 hi, z08 hi (by omega), w_len, w_8, w_10, w_12, w_13, w_36, w_hc1, w_hc3, w_fN, ↓LA, LB, simprocAttr]
   exact z0c (by refine ⟨_, by omega, i + 1, _, _, _, _, rfl, by omega, hmn, ?_, ?_, ?_, (by omega), Nat.zero_le _, ?_, ?_, ?_, ?_, ?_, ?_, ?_, ?_, ?_, ?_, rfl⟩ <;> simp only [w_len, w_0, w_1, w_6, w_7, w_8, w_10, w_34, w_35, w_hc0, w_hc1, w_hS, w_fN, w_fZ, w_aN, LB, simprocAttr])
 have hie : i = L.length := by omega
 subst hie
 have hml := g_1.1
 rw [List.take_length] at hml
 have hlm : ∀ nx lw, z4k { s := si, next := nx, low := lw } (.map (nxq + 1)) = some (reps (ap ns ns (j + 1)) L).length := fun nx lw => by rw [← hml]; exact zjm w_gc2
 have hgr := zoa (ns := ns) (l := L) (n := j)
 have hle := z6o (E := ap ns ns (j + 1)) (l := L)
 by_cases he : (reps (ap ns ns (j + 1)) L).length = c
 ·obtain ⟨e1, e2⟩ := zi5 hcl (he.trans a_2)
  simp only [hi, hlm, ↓zdw, ceq he, w_len, w_36, w_7, w_8, w_10, w_35, ↓LA, LB, simprocAttr]
  refine rql2 (by have := zd0 w_gc1 y1l; rw [z83] at this; exact this) znq ?_
  rw [hLr, ← e1, he]
  congr 2
  unfold nxs
  apply List.map_congr_left
  intro x _
  congr 1
  by_cases hx : x ∈ L
  ·rw [List.take_length, if_pos hx, if_pos hx, e2 x hx]
  ·rw [List.take_length, if_neg hx, if_neg hx]
 ·have w_x3 : nows ns L (j + 1) = nxs (ap ns ns (j + 1)) L L.length ns.length := rfl
  simp only [hi, hlm, ↓zdw, cne he, w_len, w_36, w_7, w_8, w_10, w_35, ↓LA, LB, simprocAttr]
  exact z0c (by refine ⟨_, by omega, (reps (ap ns ns (j + 1)) L).length, _, _, _, nxc + 2, j + 1, rfl, by omega, by omega, rfl, ?_, (by omega), Nat.zero_le _, ?_, ?_, ?_, ?_, ?_, rfl⟩ <;> simp only [w_len, w_0, w_1, w_gc1, w_x3, LB, simprocAttr])
end Go.Lift.K
