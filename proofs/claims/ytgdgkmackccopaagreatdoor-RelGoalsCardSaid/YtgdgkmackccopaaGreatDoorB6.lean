/- Part B6 of the proof. -/
import Derived.Test.YtgdgkmackccopaaGreatDoorB5
import Derived.Test.YtgdgkmackccopaaGreatDoorA7
import Derived.Test.YtgdgkmackccopaaGreatDoorB4
import Derived.Test.YtgdgkmackccopaaGreatDoorB3
set_option linter.all false
namespace Go.Lift.K
open Go Go.Lift
set_option maxRecDepth 100000
def zns (n : Nat) : List V := (List.replicate n [V.d (.str []), V.nilS]).flatten
theorem zsm {n : Nat} : zns (n + 1) = .d (.str []) :: .nilS :: zns n := by simp [zns, List.replicate_succ]
theorem zqj {k n i : Nat} {ag : Bool} (h : i < n) : z0a 2 (.arr k 2 ag 0 n) (i : Int) = some (.ptr k (i * 2)) := by
 simp only [z0a]
 rw [if_pos ⟨by omega, by omega, trivial⟩]
 simp
theorem zao {E : Nat → Nat → Prop} {L : List Nat} {N x : Nat} (hx : x ∈ L) (hn : x < N) : z0a 1 (.d (.sl (nxs E L L.length N))) (x : Int) = some (.dptr [.int .i64 ((cls E (reps E L) x : Nat) : Int)]) := by
 simp only [z0a]
 rw [if_pos (by omega)]
 have : (nxs E L L.length N)[(x : Int).toNat]? = some (.int .i64 ((cls E (reps E L) x : Nat) : Int)) := by
  simp [nxs, hn, hx]
 simp only [this]
 rfl
theorem at0 {P R : List V} {a : V} {n : Nat} (h : P.length = n) : (n + 1 ≤ (P ++ a :: R).length) = True ∧ ((P ++ a :: R).drop n).take 1 = [a] ∧ ∀ x, (P ++ a :: R).take n ++ [x] ++ (P ++ a :: R).drop (n + 1) = P ++ x :: R := by
 subst h
 refine ⟨eq_true (by simp), by simp, fun x => ?_⟩
 rw [List.take_left, List.drop_append, List.drop_eq_nil_of_le (by omega)]
 simp [show P.length + 1 - P.length = 1 by omega]
theorem at1 {P R : List V} {a b : V} {n : Nat} (h : P.length = n) : (n + (1 + 1) ≤ (P ++ a :: b :: R).length) = True ∧ ((P ++ a :: b :: R).drop (n + 1)).take 1 = [b] ∧ ∀ x, (P ++ a :: b :: R).take (n + 1) ++ [x] ++ (P ++ a :: b :: R).drop (n + (1 + 1)) = P ++ a :: x :: R := by
 have := at0 (P := P ++ [a]) (R := R) (a := b) (n := n + 1) (by simp [h])
 simpa [Nat.add_assoc] using this
structure Mg (ns : List NodeT) (L : List Nat) (s : List (Nat × Obj)) (S : Nat → Prop) (i : Nat) (P : List V) : Prop where
 len : P.length = (reps (bis ns ns) (L.take i)).length * 2
 cv : CVs (CQ s false S 1) P (((reps (bis ns ns) (L.take i)).map fun x => (z3i ns (reps (bis ns ns) L) x).d).flatMap cellsD)
 nm : ∀ c (h : c < (reps (bis ns ns) (L.take i)).length), (P.drop (c * 2)).take 1 = [.d (.str (nd ns (reps (bis ns ns) (L.take i))[c]).name)]
theorem y1z {ns : List NodeT} {L : List Nat} {s : List (Nat × Obj)} {S : Nat → Prop} : Mg ns L s S 0 [] := ⟨rfl, trivial, fun c h => by cases h⟩
theorem Mg.frame {ns : List NodeT} {L : List Nat} {s s' : List (Nat × Obj)} {S S' : Nat → Prop} {i : Nat} {P : List V} (h : Mg ns L s S i P) (hs : ∀ j, S j → sget s' j = sget s j) (hS : ∀ j, S j → S' j) : Mg ns L s' S' i P := ⟨h.len, h.cv.imp fun v d hv => (hv.frame hs).mono hS, h.nm⟩
theorem zmi {ns : List NodeT} {L : List Nat} {x : Nat} (hx : x ∈ L) : cls (bis ns ns) (reps (bis ns ns) L) x < (reps (bis ns ns) L).length := (zcj (z2e (fun _ => z3n) hx)).1
section
variable {ns : List NodeT} {L : List Nat} {s : List (Nat × Obj)} {S : Nat → Prop} {i : Nat} {P : List V}
theorem y1y (hi : i < L.length) (h : Mg ns L s S i P) (ho : ∃ r ∈ reps (bis ns ns) (L.take i), bis ns ns r L[i]) : Mg ns L s S (i + 1) P := by
 have e := z3a (E := bis ns ns) zbb hi
 rw [if_pos ho] at e
 obtain ⟨h1, h2, h3⟩ := h
 exact ⟨by rw [e]; exact h1, by rw [e]; exact h2, by rw [e]; exact h3⟩
theorem zlz (hi : i < L.length) (ho : ¬ ∃ r ∈ reps (bis ns ns) (L.take i), bis ns ns r L[i]) : cls (bis ns ns) (reps (bis ns ns) L) L[i] = (reps (bis ns ns) (L.take i)).length := by
 have e := z3a (E := bis ns ns) zbb hi
 rw [if_neg ho] at e
 obtain ⟨m, hm⟩ := zd3 (E := bis ns ns) (l := L) (i := i + 1)
 rw [hm, zi2 (by rw [e]; exact ⟨L[i], by simp, z3n⟩), e, zrn ho z3n]
theorem zly {x : Nat} (ho : ∃ r ∈ reps (bis ns ns) (L.take i), bis ns ns r x) : ∃ h : cls (bis ns ns) (reps (bis ns ns) L) x < (reps (bis ns ns) (L.take i)).length, (nd ns (reps (bis ns ns) (L.take i))[cls (bis ns ns) (reps (bis ns ns) L) x]).name = (nd ns x).name := by
 obtain ⟨m, hm⟩ := zd3 (E := bis ns ns) (l := L) (i := i)
 have e : cls (bis ns ns) (reps (bis ns ns) L) x = cls (bis ns ns) (reps (bis ns ns) (L.take i)) x := by rw [hm, zi2 ho]
 obtain ⟨h1, h2⟩ := zcj ho
 simp only [e]
 exact ⟨h1, (z5b h2).1⟩
theorem y20 (hi : i < L.length) (h : Mg ns L s S i P) (ho : ¬ ∃ r ∈ reps (bis ns ns) (L.take i), bis ns ns r L[i]) {v : V} (hv : CQ s false S 1 v (.sl ((z3i ns (reps (bis ns ns) L) L[i]).kids.map (D.int .i64)))) :
  Mg ns L s S (i + 1) (P ++ [.d (.str (nd ns L[i]).name), v]) := by
 have e := z3a (E := bis ns ns) zbb hi
 rw [if_neg ho] at e
 obtain ⟨h1, h2, h3⟩ := h
 refine ⟨by rw [e]; simp [h1]; omega, ?_, ?_⟩
 ·rw [e, List.map_append, List.flatMap_append]
  refine CVs.append h2 ?_
  exact ⟨CQ.str, hv, trivial⟩
 ·simp only [e]
  intro c hc
  by_cases hcl : c < (reps (bis ns ns) (L.take i)).length
  ·rw [List.drop_append_of_le_length (by omega), List.take_append_of_le_length (by simp; omega), h3 c hcl]
   simp [hcl]
  ·have : c = (reps (bis ns ns) (L.take i)).length := by simp at hc; omega
   subst this
   rw [← h1, List.drop_left]
   simp
end
theorem y3u {ns : List NodeT} {L : List Nat} {s : List (Nat × Obj)} {S : Nat → Prop} {i : Nat} {P R : List V} (h : Mg ns L s S i P) {c : Nat} (hc : c < (reps (bis ns ns) (L.take i)).length) :
  (c * 2 + 1 ≤ (P ++ R).length) = True ∧ ((P ++ R).drop (c * 2)).take 1 = [.d (.str (nd ns (reps (bis ns ns) (L.take i))[c]).name)] := by
 have h1 := h.len
 refine ⟨eq_true (by simp; omega), ?_⟩
 rw [List.drop_append_of_le_length (by omega), List.take_append_of_le_length (by simp; omega), h.nm c hc]
noncomputable def mxs (ns : List NodeT) (R : List Nat) (x k : Nat) : List D := (List.range (nd ns x).kids.length).map fun q => D.int .i64 (if q < k then ((cls (bis ns ns) R (kid ns x q) : Nat) : Int) else ((kid ns x q : Nat) : Int))
theorem z4e {ns : List NodeT} {R : List Nat} {x k : Nat} : (mxs ns R x k).length = (nd ns x).kids.length := by simp [mxs]
theorem zwk {ns : List NodeT} {R : List Nat} {x k : Nat} : (mxs ns R x k).all D.sc = true := by simp [mxs, D.sc]
theorem ztq {ns : List NodeT} {R : List Nat} (hg : Gd ns) {x : Nat} (hx : x < ns.length) : ns[x].kids.map (D.int .i64) = mxs ns R x 0 := by
 apply List.ext_getElem
 ·rw [z4e, z2j hx, List.length_map]
 ·intro q h1 h2
  rw [List.length_map] at h1
  simp [mxs, (hg.at_ hx h1).1]
theorem y1r {ns : List NodeT} {R : List Nat} {x k : Nat} (h : k < (nd ns x).kids.length) : (mxs ns R x k)[k]'(by rw [z4e]; exact h) = .int .i64 (kid ns x k : Nat) := by simp [mxs]
theorem zyn {ns : List NodeT} {R : List Nat} {x k : Nat} : (mxs ns R x k).set k (.int .i64 ((cls (bis ns ns) R (kid ns x k) : Nat) : Int)) = mxs ns R x (k + 1) := by
 apply List.ext_getElem
 ·simp [z4e]
 ·intro q h1 h2
  rw [List.getElem_set]
  simp only [mxs, List.getElem_map, List.getElem_range]
  by_cases e : k = q
  ·subst e; simp
  ·rw [if_neg e]
   by_cases h : q < k
   ·rw [if_pos h, if_pos (by omega)]
   ·rw [if_neg h, if_neg (by omega)]
theorem zyo {ns : List NodeT} {R : List Nat} {x : Nat} : mxs ns R x (nd ns x).kids.length = (z3i ns R x).kids.map (D.int .i64) := by
 unfold z3i
 apply List.ext_getElem
 ·simp [z4e, z31]
 ·intro q h1 h2
  have hq : q < (nd ns x).kids.length := by rw [z4e] at h1; exact h1
  have hq' : q < (kds ns x).length := by rw [z31]; exact hq
  simp [mxs, hq, kid, List.getD_eq_getElem?_getD, hq']
set_option maxHeartbeats 4000000 in
theorem zpe {ns : List NodeT} (hg : Gd ns) (hnm : ∀ i, i < ns.length → (nd ns i).name ≠ []) {r : Nat} (hr : r < ns.length) (st : St) :
  z06 G (.fn 68 [] []) [.d (.sl (ns.map NodeT.d)), .d (.sl (dis (z2z ns r))), .d (.sl (nxs (bis ns ns) (z2z ns r) (z2z ns r).length ns.length)), .d (.int .i64 ((z1x ns r).length : Nat))] st = some (.d (TreeT.d ⟨z0r ns r, 0⟩), st) := by
 have hn := hg.rt
 have hl := hg.len
 obtain ⟨hnd, hlt, hcl, hhd⟩ := z1v hn hr
 have hrl := zf9 hn hr
 have hln : z0r ns r = (z1x ns r).map (z3i ns (z1x ns r)) := rfl
 have hLr : z1x ns r = reps (bis ns ns) (z2z ns r) := rfl
 rw [hln, hLr]
 obtain ⟨L, hL⟩ : ∃ L, L = z2z ns r := ⟨_, rfl⟩
 rw [← hL] at hnd hlt hcl hhd hrl ⊢
 have hml := z6o (E := bis ns ns) (l := L)
 have hmk := fun (key : Nat) (st : St) => zfj (key := key) (es := 2) (eb := 40) (n := (reps (bis ns ns) L).length) (ag := true) (zero := [.d (.str []), .nilS]) (st := st) (by omega) (by omega) rfl rfl
 refine z15 (ds := [.sl (ns.map NodeT.d), .sl (dis L), .sl (nxs (bis ns ns) L L.length ns.length), .int .i64 ((reps (bis ns ns) L).length : Nat)]) (rs := [TreeT.d ⟨(reps (bis ns ns) L).map (z3i ns (reps (bis ns ns) L)), 0⟩]) T1.g68 rfl rfl (fun e w_len harg => ?_) st
 have w_len : e.length = 87 := w_len
 have w_0 := harg 0 (by simp)
 have w_1 := harg 1 (by simp)
 have w_2 := harg 2 (by simp)
 have w_3 := harg 3 (by simp)
 clear harg
 simp only [List.map_cons, List.map_nil, List.getD_cons_zero, List.getD_cons_succ] at w_0 w_1 w_2 w_3
 simp only [T1.i68, hmk, dis_len, w_len, w_1, w_3, ↓LA, LB, simprocAttr]
 have w_x1 : ∀ n, (List.replicate n [V.d (.str []), V.nilS]).flatten = zns n := fun _ => rfl
 have w_x2 : (reps (bis ns ns) []).length = 0 := rfl
 have w_x3 : ∀ n : Nat, n - 0 = n := fun _ => rfl
 refine z0e (fun e0 s0 m env st => ∃ (i nxi lwi : Nat) (si : List (Nat × Obj)) (P : List V), m = L.length - i ∧ (i ≤ L.length) ∧ (Mg ns L si (Iv 6 nxi) i P) ∧ sget si (0) = some (.cells [.nilS, .d (.int .i64 0)]) ∧ sget si (4) = some (.cells [.arr 2 2 true 0 (reps (bis ns ns) L).length, .d (.int .i64 0)]) ∧ sget si (2) = some (.cells (P ++ zns ((reps (bis ns ns) L).length - (reps (bis ns ns) (L.take i)).length))) ∧ 6 ≤ nxi ∧ 0 ≤ lwi ∧ env.length = 87 ∧ env.getD 20 .undef = .d (.int .i64 i) ∧ env.getD 0 .undef = .d (.sl (ns.map NodeT.d)) ∧ env.getD 2 .undef = .d (.sl (nxs (bis ns ns) L L.length ns.length)) ∧ env.getD 8 .undef = .ptr 0 0 ∧ env.getD 9 .undef = .ptr 4 0 ∧ env.getD 18 .undef = .d (.sl (dis L)) ∧ env.getD 19 .undef = .d (.int .i64 L.length) ∧ st = { s := si, next := nxi, low := lwi }) ?_ (L.length) (by refine ⟨0, _, _, _, [], rfl, by omega, y1z, ?_, ?_, ?_, (by omega), Nat.zero_le _, ?_, ?_, ?_, ?_, ?_, ?_, ?_, ?_, rfl⟩ <;> simp only [w_len, w_0, w_2, w_x1, w_x2, w_x3, LB, simprocAttr])
 rintro m env st ⟨i, nxi, lwi, si, P, hm, a_0, a_1, w_ac0, w_ac1, w_ac2, w_ab, w_alo, w_len, w_20, w_0, w_2, w_8, w_9, w_18, w_19, rfl⟩
 have w_aN := aI (cf1 (x := nxi) (a := 0) (by omega)) (aI (cf1 (x := nxi) (a := 4) (by omega)) (cf1 (x := nxi) (a := 2) (by omega)))
 have w_aS := aI (cf2 (x := nxi) (by omega) w_ac0) (aI (cf2 (x := nxi) (by omega) w_ac1) (cf2 (x := nxi) (by omega) w_ac2))
 have w_aZ := zf0 (x := nxi) (n := 6) (by omega)
 by_cases hi : i < L.length
 ·have hxL := List.getElem_mem hi
  have hx := hlt L[i] hxL
  have hcm := zmi (ns := ns) hxL
  have hne := hnm _ hx
  by_cases ho : ∃ r ∈ reps (bis ns ns) (L.take i), bis ns ns r L[i]
  ·obtain ⟨h1, h2⟩ := zly ho
   have hat := y3u a_1 (R := zns ((reps (bis ns ns) L).length - (reps (bis ns ns) (L.take i)).length)) h1
   rw [h2] at hat
   simp only [hi, z7j hi, zao hxL hx, zqj hcm, hat, hne, z08 hi (by omega), w_len, w_20, w_2, w_9, w_18, w_19, w_ac1, w_ac2, ↓LA, LB, simprocAttr]
   have w_oe := z3a (E := bis ns ns) zbb hi
   rw [if_pos ho] at w_oe
   exact z0c (by refine ⟨_, by omega, i + 1, _, _, _, P, rfl, by omega, (y1y hi a_1 ho).frame (fun _ _ => rfl) (fun q hq => ⟨hq.1, by have := hq.2; omega⟩), ?_, ?_, ?_, (by omega), Nat.zero_le _, ?_, ?_, ?_, ?_, ?_, ?_, ?_, ?_, rfl⟩ <;> simp only [w_len, w_0, w_2, w_8, w_9, w_18, w_19, w_ac0, w_ac1, w_ac2, w_oe, LB, simprocAttr])
  ·have hcn := zlz hi ho
   have hPl := a_1.len
   rw [hcn] at hcm
   have hz : zns ((reps (bis ns ns) L).length - (reps (bis ns ns) (L.take i)).length) = .d (.str []) :: .nilS :: zns ((reps (bis ns ns) L).length - ((reps (bis ns ns) (L.take i)).length + 1)) := by
    rw [← zsm]; congr 1; omega
   rw [hz] at w_ac2
   have hp0 := fun (x y : V) (R : List V) => at0 (P := P) (R := y :: R) (a := x) hPl
   have hp1 := fun (x y : V) (R : List V) => at1 (P := P) (R := R) (a := x) (b := y) hPl
   have hkl := hg.kids _ hx
   have hk0 := z4e (ns := ns) (R := reps (bis ns ns) L) (x := L[i]) (k := 0)
   have hke0 := ztq (R := reps (bis ns ns) L) hg hx
   have hnd := z2j hx
   have hkl' : ns[L[i]].kids.length ≤ 4 := by rw [← hnd]; exact hkl
   have hmk2 := fun (key : Nat) (st : St) => zey (key := key) (eb := 8) (n := ns[L[i]].kids.length) (x := .int .i64 0) (st := st) rfl (by rw [← hnd]; omega) (by rw [← hnd]; omega)
   have hcp : ∀ z nx' lw q, sget z q = some (.cells (scs (List.replicate ns[L[i]].kids.length (D.int .i64 0)))) → z8l { s := z, next := nx', low := lw } 1 (.arr q 1 false 0 ns[L[i]].kids.length) (.d (.sl (ns[L[i]].kids.map (D.int .i64)))) = some (.d (.int .i64 ns[L[i]].kids.length), { s := sset z q (.cells (scs (mxs ns (reps (bis ns ns) L) L[i] 0))), next := nx', low := Nat.min lw q }) := fun z nx' lw q h => by
    have := zva (nx := nx') (lw := lw) (es := 1) (ag := false) (l := ns[L[i]].kids.map (D.int .i64)) h (by simp [z4d]) (z0j fun a => zb2)
    rw [hke0, (z71 zwk).1] at this
    rw [hke0]
    rw [z4e, hnd] at this
    exact this
   simp only [hi, z7j hi, zao hxL hx, hcn, zqj hcm, hp0, hp1, z32 hx, hmk2, hcp, List.length_map, w_len, w_20, w_0, w_2, w_9, w_18, w_19, w_ac1, w_ac2, w_aN, w_aS, ↓LA, LB, simprocAttr]
   refine z0e (fun e0 s0 m env st => ∃ (k nxk lwk : Nat) (sk : List (Nat × Obj)), m = ns[L[i]].kids.length - k ∧ (k ≤ ns[L[i]].kids.length) ∧ (Mg ns L sk (Iv 6 nxi) i P) ∧ sget sk (0) = some (.cells [.nilS, .d (.int .i64 0)]) ∧ sget sk (4) = some (.cells [.arr 2 2 true 0 (reps (bis ns ns) L).length, .d (.int .i64 0)]) ∧ sget sk (2) = some (.cells (P ++ .d (.str ns[L[i]].name) :: .arr (nxi + 33) 1 false 0 ns[L[i]].kids.length :: zns ((reps (bis ns ns) L).length - ((reps (bis ns ns) (L.take i)).length + 1)))) ∧ sget sk (nxi + 33) = some (.cells (scs (mxs ns (reps (bis ns ns) L) L[i] k))) ∧ nxi + 34 ≤ nxk ∧ 0 ≤ lwk ∧ env.length = 87 ∧ env.getD 69 .undef = .d (.int .i64 k) ∧ env.getD 0 .undef = .d (.sl (ns.map NodeT.d)) ∧ env.getD 2 .undef = .d (.sl (nxs (bis ns ns) L L.length ns.length)) ∧ env.getD 8 .undef = .ptr 0 0 ∧ env.getD 9 .undef = .ptr 4 0 ∧ env.getD 12 .undef = .ptr 2 ((reps (bis ns ns) (L.take i)).length * 2) ∧ env.getD 18 .undef = .d (.sl (dis L)) ∧ env.getD 19 .undef = .d (.int .i64 L.length) ∧ env.getD 20 .undef = .d (.int .i64 i) ∧ env.getD 67 .undef = .arr (nxi + 33) 1 false 0 ns[L[i]].kids.length ∧ env.getD 68 .undef = .d (.int .i64 ns[L[i]].kids.length) ∧ st = { s := sk, next := nxk, low := lwk }) ?_ (ns[L[i]].kids.length) (by refine ⟨0, _, _, _, rfl, by omega, a_1.frame (by intro j h; obtain ⟨h1, h2⟩ := h; simp (disch := omega) only [z00, z03]) (fun _ h => h), ?_, ?_, ?_, ?_, (by omega), Nat.zero_le _, ?_, ?_, ?_, ?_, ?_, ?_, ?_, ?_, ?_, ?_, ?_, ?_, rfl⟩ <;> simp only [w_len, w_20, w_0, w_2, w_8, w_9, w_18, w_19, w_ac0, w_ac1, w_aN, w_aS, LB, simprocAttr])
   rintro m env st ⟨k, nxk, lwk, sk, hm, b_0, b_1, w_bc0, w_bc1, w_bc2, w_bc3, w_bb, w_blo, w_len, w_69, w_0, w_2, w_8, w_9, w_12, w_18, w_19, w_20, w_67, w_68, rfl⟩
   have w_bN := aI (cf1 (x := nxk) (a := 0) (by omega)) (aI (cf1 (x := nxk) (a := 4) (by omega)) (aI (cf1 (x := nxk) (a := 2) (by omega)) (cf1 (x := nxk) (a := nxi + 33) (by omega))))
   have w_bS := aI (cf2 (x := nxk) (by omega) w_bc0) (aI (cf2 (x := nxk) (by omega) w_bc1) (aI (cf2 (x := nxk) (by omega) w_bc2) (cf2 (x := nxk) (by omega) w_bc3)))
   have w_bZ := aI (zf (x := nxk) (b := nxi) (n := 34) (by omega) (by omega)) (zf0 (x := nxk) (n := 6) (by omega))
   by_cases hk : k < ns[L[i]].kids.length
   ·obtain ⟨hke, hkn⟩ := hg.at_ hx hk
    have hk' : k < (nd ns L[i]).kids.length := by rw [hnd]; exact hk
    have hkL : kid ns L[i] k ∈ L := hcl _ hxL _ (z3h hk')
    have hat := zbu (ds := mxs ns (reps (bis ns ns) L) L[i] k) (i := k) (by rw [z4e]; exact hk')
    have hat2 := y1r (R := reps (bis ns ns) L) (k := k) hk'
    have hst := z6m (ds := mxs ns (reps (bis ns ns) L) L[i] k) (i := k) (x := .int .i64 ((cls (bis ns ns) (reps (bis ns ns) L) (kid ns L[i] k) : Nat) : Int)) (by rw [z4e]; exact hk')
    simp only [hk, z5n hk, hat, hat2, zao hkL hkn, hp1, hst, zyn, z08 hk (by omega), w_len, w_69, w_2, w_12, w_67, w_68, w_bc2, w_bc3, ↓LA, LB, simprocAttr]
    exact z0c (by refine ⟨_, by omega, k + 1, _, _, _, rfl, by omega, b_1.frame (by intro j h; obtain ⟨h1, h2⟩ := h; simp (disch := omega) only [z03]) (fun _ h => h), ?_, ?_, ?_, ?_, (by omega), Nat.zero_le _, ?_, ?_, ?_, ?_, ?_, ?_, ?_, ?_, ?_, ?_, ?_, ?_, rfl⟩ <;> simp only [w_len, w_0, w_2, w_8, w_9, w_12, w_18, w_19, w_20, w_67, w_68, w_bc0, w_bc1, w_bc2, w_bS, w_aN, LB, simprocAttr])
   have hke : k = ns[L[i]].kids.length := by omega
   subst hke
   have w_oe := z3a (E := bis ns ns) zbb hi
   rw [if_neg ho] at w_oe
   have w_ol : (reps (bis ns ns) (L.take (i + 1))).length = (reps (bis ns ns) (L.take i)).length + 1 := by rw [w_oe]; simp
   have w_pa : ∀ (x y : V) (R : List V), P ++ [x, y] ++ R = P ++ x :: y :: R := fun x y R => by simp
   simp only [hk, z08 hi (by omega), w_len, w_69, w_20, w_68, ↓LA, LB, simprocAttr]
   have hme := zyo (ns := ns) (R := reps (bis ns ns) L) (x := L[i])
   rw [hnd] at hme
   have hcq : CQ sk false (fun q => 6 ≤ q ∧ q < nxk) 1 (.arr (nxi + 33) 1 false 0 ns[L[i]].kids.length) (.sl ((z3i ns (reps (bis ns ns) L) L[i]).kids.map (D.int .i64))) := by
    have := zw4 (S := fun q => 6 ≤ q ∧ q < nxk) ⟨by omega, by omega⟩ w_bc3 zwk
    rw [z4e, hnd] at this
    rw [← hme]
    exact this
   have hmg := y20 hi (b_1.frame (fun _ _ => rfl) (fun q hq => ⟨hq.1, by have := hq.2; omega⟩)) ho hcq
   rw [hnd] at hmg
   exact z0c (by refine ⟨_, by omega, i + 1, _, _, _, P ++ [.d (.str ns[L[i]].name), .arr (nxi + 33) 1 false 0 ns[L[i]].kids.length], rfl, by omega, hmg.frame (fun _ _ => rfl) (fun q hq => ⟨hq.1, by have := hq.2; omega⟩), ?_, ?_, ?_, (by omega), Nat.zero_le _, ?_, ?_, ?_, ?_, ?_, ?_, ?_, ?_, rfl⟩ <;> simp only [w_len, w_0, w_2, w_8, w_9, w_18, w_19, w_bc0, w_bc1, w_bc2, w_ol, w_pa, LB, simprocAttr])
 ·have hie : i = L.length := by omega
  subst hie
  obtain ⟨h1, h2, _⟩ := a_1
  rw [List.take_length] at h1 h2 w_ac2
  rw [Nat.sub_self, show zns 0 = [] from rfl, List.append_nil] at w_ac2
  simp only [hi, w_len, w_20, w_8, w_9, w_19, w_ac0, w_ac1, w_aS, ↓LA, LB, simprocAttr]
  refine rql1 (x := TreeT.d ⟨(reps (bis ns ns) L).map (z3i ns (reps (bis ns ns) L)), 0⟩) (zir (lv := false) (S := fun _ => True) (n := 2) (m := 11) (fun _ _ => Nat.zero_le _) (by decide) ⟨?_, CQ.int, trivial⟩) rfl
  refine zkn _ trivial (by rw [z03 (by omega)]; exact w_ac2) (by omega) (z0j fun a => z9b) (by simp) ?_
  rw [List.map_map]
  exact h2.imp fun v d hv => (hv.frame (fun j hj => by obtain ⟨h3, _⟩ := hj; exact z03 (by omega))).mono fun _ _ => trivial
end Go.Lift.K
namespace Go.Lift.K
open Go Go.Lift
set_option maxRecDepth 100000
theorem ru2 {st : St} {next : Nat} {x y : V} {x' y' : V} (hl : next ≤ st.low) (h : z6b st.s next [x, y] = some [x', y']) : RU (some [x, y]) st next [x', y'] := ⟨_, rfl, hl, h⟩
structure Ok (t : TreeT) : Prop where
 gd : Gd t.nodes
 rl : 0 ≤ t.root
 rh : t.root < t.nodes.length
 nm : ∀ x ∈ t.nodes, z0z x.name = true
theorem z5x {t : TreeT} : z0b t = 0 ↔ (1 ≤ t.nodes.length ∧ t.nodes.length ≤ 60) ∧ (∀ x ∈ t.nodes, x.kids.length ≤ 4) ∧ (∀ x ∈ t.nodes, z0z x.name = true) ∧ (0 ≤ t.root ∧ t.root < t.nodes.length) ∧ ∀ x ∈ t.nodes, ∀ k ∈ x.kids, 0 ≤ k ∧ k < t.nodes.length := by
 unfold z0b
 by_cases h1 : ((t.nodes.length : Int) < 1 ∨ (60 : Int) < t.nodes.length) ∨ t.nodes.all (fun x => decide (x.kids.length ≤ 4)) = false
 ·rw [if_pos h1]
  refine ⟨fun h => (by cases h), fun ⟨h2, h3, _⟩ => ?_⟩
  rcases h1 with h1 | h1
  ·omega
  ·rw [List.all_eq_true.2 (fun x hx => by simpa using h3 x hx)] at h1; cases h1
 rw [if_neg h1]
 by_cases h2 : t.nodes.all (fun x => z0z x.name) = false
 ·rw [if_pos h2]
  refine ⟨fun h => (by cases h), fun ⟨_, _, h3, _⟩ => ?_⟩
  rw [List.all_eq_true.2 h3] at h2; cases h2
 rw [if_neg h2]
 have k1 : t.nodes.all (fun x => decide (x.kids.length ≤ 4)) = true := by
  cases h : t.nodes.all (fun x => decide (x.kids.length ≤ 4)) with
  | true => rfl
  | false => exact absurd (.inr h) h1
 have k2 : t.nodes.all (fun x => z0z x.name) = true := by
  cases h : t.nodes.all (fun x => z0z x.name) with
  | true => rfl
  | false => exact absurd h h2
 rw [List.all_eq_true] at k1 k2
 have e : ∀ k : Int, inR t.nodes.length k = true ↔ 0 ≤ k ∧ k < t.nodes.length := fun k => by simp [inR]
 by_cases h3 : inR t.nodes.length t.root = false ∨ t.nodes.all (fun x => x.kids.all (inR t.nodes.length)) = false
 ·rw [if_pos h3]
  refine ⟨fun h => (by cases h), fun ⟨_, _, _, h4, h5⟩ => ?_⟩
  rcases h3 with h3 | h3
  ·rw [(e _).2 h4] at h3; cases h3
  ·rw [List.all_eq_true.2 (fun x hx => List.all_eq_true.2 fun k hk => (e k).2 (h5 x hx k hk))] at h3; cases h3
 rw [if_neg h3]
 refine ⟨fun _ => ⟨by omega, fun x hx => by simpa using k1 x hx, k2, (e _).1 ?_, fun x hx k hk => (e k).1 ?_⟩, fun _ => rfl⟩
 ·cases h : inR t.nodes.length t.root with
  | true => rfl
  | false => exact absurd (.inl h) h3
 ·cases h : t.nodes.all (fun x => x.kids.all (inR t.nodes.length)) with
  | true => exact List.all_eq_true.1 (List.all_eq_true.1 h x hx) k hk
  | false => exact absurd (.inr h) h3
theorem zje {ns : List NodeT} {i : Nat} (h : i < ns.length) : nd ns i ∈ ns := by rw [z2j h]; exact List.getElem_mem h
theorem z6l {t : TreeT} (h : z0b t = 0) : Ok t := by
 obtain ⟨h1, h2, h3, h4, h5⟩ := z5x.1 h
 exact ⟨⟨h1.2, fun i hi => h2 _ (zje hi), fun i hi => h5 _ (zje hi)⟩, h4.1, h4.2, h3⟩
theorem Ok.spec {t : TreeT} (h : Ok t) : z0b t = 0 := by
 have h1 := h.rl
 have h2 := h.rh
 have hm : ∀ x ∈ t.nodes, ∃ i, i < t.nodes.length ∧ nd t.nodes i = x := fun x hx => by
  obtain ⟨i, hi, rfl⟩ := List.mem_iff_getElem.1 hx
  exact ⟨i, hi, z2j hi⟩
 refine z5x.2 ⟨⟨by omega, h.gd.len⟩, fun x hx => ?_, h.nm, ⟨h1, h2⟩, fun x hx => ?_⟩
 ·obtain ⟨i, hi, rfl⟩ := hm x hx; exact h.gd.kids i hi
 ·obtain ⟨i, hi, rfl⟩ := hm x hx; exact h.gd.low i hi
theorem zuq {l : List TreeT} {p : TreeT → Bool} {fv : V} {s : List (Nat × Obj)} {nx lw : Nat} (hl : LOk l) (h : TellsT G fv s nx TreeT.d (· ∈ l) p) :
  z06 G (.fn 82 [] []) [.d (.sl (l.map TreeT.d)), fv] { s := s, next := nx, low := lw } =
   some (match l.find? p with | none => .tup [mkAgg [.nilS, .d (.int .i64 0)], .d (.bool false)] | some t => .tup [.d t.d, .d (.bool true)], { s := s, next := nx, low := lw }) := by
 unfold LOk at hl
 have hI : ∀ nx' lw' (q : List (Nat × Obj)), Sub nx s q → nx ≤ nx' → z06 G (.fn 108 [] []) [.d (.sl (l.map TreeT.d)), fv] { s := q, next := nx', low := lw' } = some (.d (.int .i64 (idxL p l)), { s := q, next := nx', low := lw' }) := fun nx' lw' q h1 h2 =>
  zhn (es := 2) (ag := true) T1.g108 hl (fun a _ => z2n) (h.sub h1 h2)
 have hne : ∀ a b : Nat, a < b → (b = a) = False := fun a b h => by simp; omega
 rcases z7h (p := p) (l := l) with ⟨e1, e2⟩ | ⟨i, hi, e1, e2⟩
 ·rw [e2]
  have hlt : (-1 : Int) < 0 := by omega
  refine z5e (first := []) (args := [.d (.sl (l.map TreeT.d)), fv]) (cap := []) (us := [mkAgg [.nilS, .d (.int .i64 0)], .d (.bool false)]) T1.g82 rfl rfl rfl (fun e w_len harg => ?_)
  have w_len : e.length = 18 := w_len
  have w_0 : e.getD 0 .undef = .d (.sl (l.map TreeT.d)) := harg 0 (by simp)
  have w_1 : e.getD 1 .undef = fv := harg 1 (by simp)
  clear harg
  have hI' := fun nx' lw' q h1 h2 => hI nx' lw' q h1 h2
  rw [e1] at hI'
  simp only [T1.i82, w_len, w_0, w_1, ↓LA, LB, simprocAttr]
  rw [hI' _ _ _ (by exact (Sub.cons (n := nx) (by omega)).trans (Sub.cons (by omega)) (Nat.le_refl _)) (by omega)]
  simp only [hlt, w_len, ↓LA, LB, simprocAttr]
  exact ru2 (by first | exact Nat.le_refl _ | exact z01 (Nat.le_refl _) (by omega) | exact z01 (z01 (Nat.le_refl _) (by omega)) (by omega)) rfl
 ·rw [e2]
  have hlt : ¬ (i : Int) < 0 := by omega
  refine z5e (first := []) (args := [.d (.sl (l.map TreeT.d)), fv]) (cap := []) (us := [.d l[i].d, .d (.bool true)]) T1.g82 rfl rfl rfl (fun e w_len harg => ?_)
  have w_len : e.length = 18 := w_len
  have w_0 : e.getD 0 .undef = .d (.sl (l.map TreeT.d)) := harg 0 (by simp)
  have w_1 : e.getD 1 .undef = fv := harg 1 (by simp)
  clear harg
  have hI' := fun nx' lw' q h1 h2 => hI nx' lw' q h1 h2
  rw [e1] at hI'
  simp only [T1.i82, w_len, w_0, w_1, ↓LA, LB, simprocAttr]
  rw [hI' _ _ _ (by exact (Sub.cons (n := nx) (by omega)).trans (Sub.cons (by omega)) (Nat.le_refl _)) (by omega)]
  simp only [hlt, z4p hi, w_len, w_0, ↓LA, LB, simprocAttr]
  exact ru2 (by first | exact Nat.le_refl _ | exact z01 (Nat.le_refl _) (by omega) | exact z01 (z01 (Nat.le_refl _) (by omega)) (by omega)) rfl
theorem y02 {t : TreeT} (ht : t.ok) (st : St) : z06 G (.fn 83 [] []) [.d t.d] st = some (.d (.bool (decide (z0b t ≠ 0))), st) := by
 have hT := fun st => zd7 ht st
 simp only [TreeT.d] at hT
 refine z15 (ds := [t.d]) (rs := [.bool (decide (z0b t ≠ 0))]) T1.g83 rfl rfl (fun e w_len harg => ?_) st
 have w_len : e.length = 6 := w_len
 have w_0 := harg 0 (by simp)
 clear harg
 simp only [List.map_cons, List.map_nil, List.getD_cons_zero] at w_0
 simp only [T1.i83, TreeT.d, hT, w_len, w_0, ↓LA, LB, simprocAttr]
 exact rq1 (by simp)
theorem zck {l : List TreeT} (hl : LOk l) (ht : ∀ t ∈ l, t.ok) (st : St) : z06 G (.fn 60 [] []) [.d (.sl (l.map TreeT.d))] st = some (.d (.int .i64 (z0o z0b l)), st) := by
 have hF := fun s nx lw => zuq (l := l) (p := fun t => decide (z0b t ≠ 0)) (fv := .fn 83 [] []) (s := s) (nx := nx) (lw := lw) hl (z3y fun a ha st => y02 (ht a ha) st)
 have hx0 : ∀ a b : V, [a, b][0]? = some a := fun _ _ => rfl
 have hx1 : ∀ a b : V, [a, b][1]? = some b := fun _ _ => rfl
 refine z15 (ds := [.sl (l.map TreeT.d)]) (rs := [.int .i64 (z0o z0b l)]) T1.g60 rfl rfl (fun e w_len harg => ?_) st
 have w_len : e.length = 14 := w_len
 have w_0 := harg 0 (by simp)
 clear harg
 simp only [List.map_cons, List.map_nil, List.getD_cons_zero] at w_0
 cases h : l.find? (fun t => decide (z0b t ≠ 0)) with
 | none =>
  rw [h] at hF
  simp only [T1.i60, hF, hx0, hx1, w_len, w_0, ↓LA, LB, simprocAttr]
  exact rq1 (by unfold z0o; rw [h])
 | some t =>
  rw [h] at hF
  have hT := fun st => zd7 (ht t (List.mem_of_find?_eq_some h)) st
  simp only [TreeT.d] at hT hF
  simp only [T1.i60, hF, hT, hx0, hx1, w_len, w_0, ↓LA, LB, simprocAttr]
  exact rq1 (by unfold z0o; rw [h])
theorem zbq {s : List (Nat × Obj)} {k : Nat} {l : List TreeT} (h : sget s k = some (.cells (((l.map TreeT.d).flatMap cellsD).map V.d))) : snap s 0 z09 (.arr k 2 true 0 l.length) = some (.sl (l.map TreeT.d)) :=
 CQ.snap (b := 0) (S := fun _ => True) (fun _ _ => Nat.zero_le _) (n := 1) (m := 12) (by decide) (zkn (l.map TreeT.d) trivial h (by omega) (z0j fun a => z2n) (by simp) (z9j (z27 (z0j fun a => z2n)).1))
theorem zjn {t : TreeT} (ht : t.ok) (hs : z0b t = 0) (st : St) : z06 G (.fn 43 [] []) [.d t.d] st = some (.tup [.d (z2c t).d, .d (.int .i64 0)], st) := by
 have hk := z6l hs
 have hrl := hk.rl
 have hrh := hk.rh
 obtain ⟨r, hr⟩ : ∃ r : Nat, t.root = r := ⟨t.root.toNat, by omega⟩
 have hrn : r < t.nodes.length := by omega
 have hlr : z2c t = ⟨z0r t.nodes r, 0⟩ := by unfold z2c; rw [hr]; rfl
 have hnm : ∀ i, i < t.nodes.length → z0z (nd t.nodes i).name = true := fun i hi => hk.nm _ (zje hi)
 have hC : ∀ s nx lw k, sget s k = some (.cells [.d (.sl (t.nodes.map NodeT.d)), .d (.int .i64 r)]) → z06 G (.fn 60 [] []) [.arr k 2 true 0 1] { s := s, next := nx, low := lw } = some (.d (.int .i64 0), { s := s, next := nx, low := lw }) := fun s nx lw k h => by
  have := zck (l := [t]) (by simp [LOk]) (fun x hx => by rw [List.mem_singleton] at hx; subst hx; exact ht) { s := [], next := 0, low := 0 }
  rw [z1a (fun x hx => by rw [List.mem_singleton] at hx; subst hx; exact hs)] at this
  exact z4o (ds := [.sl ([t].map TreeT.d)]) (rs := [.int .i64 0]) T1.g60 rfl rfl (by have := zbq (l := [t]) (s := s) (k := k) (by rw [h, ← hr]; rfl); simp only [List.length_cons, List.length_nil, Nat.zero_add] at this; simp [z0p, this]) rfl this
 have hB : ∀ s nx lw k, sget s k = some (.cells [.d (.int .i64 r)]) → z06 G (.fn 66 [] []) [.d (.sl (t.nodes.map NodeT.d)), .arr k 1 false 0 1] { s := s, next := nx, low := lw } = some (.d (.sl (dis (z2z t.nodes r))), { s := sset s k (.fz (dis [r])), next := nx, low := Nat.min lw k }) := fun s nx lw k h => by
  exact zm4 (xs := [.sl (t.nodes.map NodeT.d)]) (ys := []) (l := dis [r]) (rs := [.sl (dis (z2z t.nodes r))]) T1.g66 rfl rfl (by omega) (fun x hx => zw5 (List.all_eq_true.1 zrf x hx)) (by rw [h]; rfl) (by obtain ⟨_, _, _, m, hm⟩ := z1v hk.gd.rt hrn; rw [hm]; rfl) (zmm hk.gd hrn _)
 have hK := fun st => zmj hk.gd (fun i hi => z78 (hnm i hi)) hrn st
 have hM := fun st => zpe hk.gd (fun i hi e => by have := hnm i hi; rw [e] at this; cases this) hrn st
 have hx0 : ∀ a b : V, [a, b][0]? = some a := fun _ _ => rfl
 have hx1 : ∀ a b : V, [a, b][1]? = some b := fun _ _ => rfl
 simp only [TreeT.d] at hM
 rw [hlr]
 refine z15 (ds := [t.d]) (rs := [TreeT.d ⟨z0r t.nodes r, 0⟩, .int .i64 0]) T1.g43 rfl rfl (fun e w_len harg => ?_) st
 have w_len : e.length = 34 := w_len
 have w_0 := harg 0 (by simp)
 clear harg
 simp only [List.map_cons, List.map_nil, List.getD_cons_zero] at w_0
 simp only [T1.i43, TreeT.d, hr, hC, hB, hK, hM, hx0, hx1, w_len, w_0, ↓LA, LB, simprocAttr]
 exact rq2 rfl
end Go.Lift.K
namespace Go.Lift.K
open Go Go.Lift
set_option maxRecDepth 100000
def difS (x y : NodeT) : Bool := !decide (x.name = y.name) || !decide (x.kids.length = y.kids.length)
def prD (p : Nat × Nat) : D := .agg [.int .i64 (p.1 : Nat), .int .i64 (p.2 : Nat)]
theorem zxb {p : Nat × Nat} : Elt 2 true (prD p) := .inl ⟨rfl, _, rfl, rfl, rfl⟩
theorem zum {o : List (Nat × Nat)} {i : Nat} (h : i < o.length) : z0a 2 (.d (.sl (o.map prD))) (i : Int) = some (.dptr [.int .i64 (o[i].1 : Nat), .int .i64 (o[i].2 : Nat)]) := z24 (enc := prD) h rfl
theorem iaP0 {k o : Nat} : z1j 2 1 (.ptr k o) 0 = some (.ptr k o) := rfl
theorem iaP1 {k o : Nat} : z1j 2 1 (.ptr k o) 1 = some (.ptr k (o + 1)) := rfl
end Go.Lift.K
namespace Go.Lift.K
open Go Go.Lift
set_option maxRecDepth 100000
structure Wi (A B : List NodeT) (x y : Nat) (o : List (Nat × Nat)) : Prop where
 nd : o.Nodup
 lt : ∀ p ∈ o, p.1 < A.length ∧ p.2 < B.length
 hd : (x, y) ∈ o
 al : bis A B x y → ∀ p ∈ o, bis A B p.1 p.2
def Wd (A B : List NodeT) (o : List (Nat × Nat)) (p : Nat × Nat) : Prop := difS (nd A p.1) (nd B p.2) = false ∧ ∀ k, k < (nd A p.1).kids.length → (kid A p.1 k, kid B p.2 k) ∈ o
theorem zb4 {a b : NodeT} : difS a b = false ↔ a.name = b.name ∧ a.kids.length = b.kids.length := by simp [difS]
theorem Wi.len {A B : List NodeT} {x y : Nat} {o : List (Nat × Nat)} (h : Wi A B x y o) : o.length ≤ A.length * B.length := by
 have : (o.map fun p => p.1 * B.length + p.2).length ≤ A.length * B.length := by
  refine z55 ?_ fun q hq => ?_
  ·refine List.pairwise_map.2 (List.Pairwise.imp_of_mem (fun {p q} hp hq hne e => hne ?_) h.nd)
   have h1 := (h.lt p hp).2
   have h2 := (h.lt q hq).2
   have e1 : p.1 = q.1 := by
    have a := congrArg (· / B.length) e
    simp only [Nat.mul_comm _ B.length, Nat.mul_add_div (by omega : 0 < B.length), Nat.div_eq_of_lt h1, Nat.div_eq_of_lt h2] at a
    omega
   rw [e1] at e
   exact Prod.ext e1 (by omega)
  ·obtain ⟨p, hp, rfl⟩ := List.mem_map.1 hq
   obtain ⟨h1, h2⟩ := h.lt p hp
   calc p.1 * B.length + p.2 < p.1 * B.length + B.length := by omega
    _ = (p.1 + 1) * B.length := by rw [Nat.add_mul, Nat.one_mul]
    _ ≤ A.length * B.length := Nat.mul_le_mul_right _ h1
 rwa [List.length_map] at this
theorem y0q {A B : List NodeT} {x y : Nat} {o : List (Nat × Nat)} (h : Wi A B x y o) (hd : ∀ p ∈ o, Wd A B o p) : bis A B x y := by
 refine zs1 (R := fun p q => (p, q) ∈ o) ?_ h.hd
 intro p q hpq
 obtain ⟨h1, h2⟩ := hd _ hpq
 obtain ⟨h3, h4⟩ := zb4.1 h1
 exact ⟨h3, h4, h2⟩
theorem y0r {A B : List NodeT} {x y : Nat} {o : List (Nat × Nat)} (h : Wi A B x y o) {p : Nat × Nat} (hp : p ∈ o) (hd : difS (nd A p.1) (nd B p.2) = true) : ¬ bis A B x y := fun hb => by
 obtain ⟨h1, h2, _⟩ := z5b (h.al hb p hp)
 rw [zb4.2 ⟨h1, h2⟩] at hd
 cases hd
theorem y0s {A B : List NodeT} (ha : Rt A) (hb : Rt B) {x y : Nat} {o : List (Nat × Nat)} (h : Wi A B x y o) {p : Nat × Nat} (hp : p ∈ o) (hd : difS (nd A p.1) (nd B p.2) = false) {k : Nat} (hk : k < (nd A p.1).kids.length) (hn : (kid A p.1 k, kid B p.2 k) ∉ o) :
  Wi A B x y (o ++ [(kid A p.1 k, kid B p.2 k)]) := by
 obtain ⟨h1, h2⟩ := h.lt p hp
 obtain ⟨d1, d2⟩ := zb4.1 hd
 refine ⟨?_, ?_, by simp [h.hd], fun hbis q hq => ?_⟩
 ·refine List.nodup_append.2 ⟨h.nd, by simp, fun a ha b hb e => ?_⟩
  rw [List.mem_singleton] at hb
  subst hb; subst e
  exact hn ha
 ·intro q hq
  rcases List.mem_append.1 hq with hq | hq
  ·exact h.lt q hq
  ·rw [List.mem_singleton] at hq; subst hq
   exact ⟨ha _ h1 _ (z3h hk), hb _ h2 _ (z3h (d2 ▸ hk))⟩
 ·rcases List.mem_append.1 hq with hq | hq
  ·exact h.al hbis q hq
  ·rw [List.mem_singleton] at hq; subst hq
   exact (z5b (h.al hbis p hp)).2.2 k hk
theorem zth {s : List (Nat × Obj)} {v : V} {l : List D} (a : l.all D.sc = true) (hl : l.length ≤ 1000000) (h : (v = .nilS ∧ l = []) ∨ ∃ k, v = .arr k 1 false 0 l.length ∧ sget s k = some (.cells (scs l))) {k0 key nx' lw : Nat} (h0 : sget s k0 = some (.cells [])) :
  z12 { s := s, next := nx', low := lw } key 1 false 8 (.arr k0 1 false 0 0) v = some (.arr key 1 false 0 l.length, { s := (key, .cells (scs l)) :: sdel s k0, next := nx', low := Nat.min lw k0 }) := by
 have hr : rdSl { s := s, next := nx', low := lw } 1 v = some (scs l, l.length) := by
  rcases h with ⟨rfl, rfl⟩ | ⟨k, rfl, g⟩
  ·rfl
  ·exact zo1 g
 have hc : (scs l).all V.isCell = true := by
  unfold scs
  rw [List.all_map]
  exact (z71 a).2
 simp only [z12, hr, St.get, h0]
 rw [if_pos ⟨trivial, trivial, by omega, by omega, hc⟩, if_pos ⟨trivial, by simp⟩]
 simp [St.ins, St.del]
end Go.Lift.K
namespace Go.Lift.K
open Go Go.Lift
set_option maxRecDepth 100000
end Go.Lift.K
namespace Go.Lift.K
open Go Go.Lift Classical
set_option maxRecDepth 100000
end Go.Lift.K
namespace Go.Lift.K
open Go Go.Lift Classical
set_option maxRecDepth 100000
end Go.Lift.K
namespace Go.Lift.K
open Go Go.Lift
set_option maxRecDepth 100000
end Go.Lift.K
namespace Go.Lift.K
open Go Go.Lift Classical
set_option maxRecDepth 100000
end Go.Lift.K
namespace Go.Lift.K
open Go Go.Lift Classical
set_option maxRecDepth 100000
noncomputable def z1i (g : GoalT) : GoalT := ⟨g.rel, g.args.map z2c⟩
def Og (g : GoalT) : Prop := ∀ t ∈ g.args, Ok t ∧ t.ok
theorem Ok.nat {t : TreeT} (h : Ok t) : t.root = (t.root.toNat : Nat) ∧ t.root.toNat < t.nodes.length := by
 have h1 := h.rl
 have h2 := h.rh
 omega
end Go.Lift.K
namespace Go.Lift.K
open Go Go.Lift Classical
set_option maxRecDepth 100000
structure Lst (t : TreeT) : Prop where
 gdt : Ok t
 tok : t.ok
 root : t.root = 0
 sep : ∀ {c d}, c < t.nodes.length → d < t.nodes.length → bis t.nodes t.nodes c d → c = d
 same : z0r t.nodes 0 = t.nodes
theorem zjo {ns : List NodeT} (hg : Gd ns) {r : Nat} (hr : r < ns.length) : Gd (z0r ns r) := by
 have hn := hg.rt
 have hl := z7d hn hr
 have hgl := hg.len
 have hm : ∀ i, i < (z0r ns r).length → i < (z1x ns r).length := fun i hi => by unfold z0r at hi; rwa [List.length_map] at hi
 refine ⟨by omega, fun i hi => ?_, fun i hi k hk => ?_⟩
 ·rw [z94 (hm i hi)]
  unfold z3i
  rw [List.length_map, z31]
  exact hg.kids _ (z40 hn hr (List.getElem_mem (hm i hi))).2
 ·have h1 : k.toNat ∈ kds (z0r ns r) i := List.mem_map.2 ⟨k, hk, rfl⟩
  have h2 := zdi hn hr i hi _ h1
  rw [z94 (hm i hi)] at hk
  obtain ⟨q, _, rfl⟩ := List.mem_map.1 hk
  simp at h2
  omega
theorem zah {ns : List NodeT} (hn : Rt ns) {r : Nat} (hr : r < ns.length) {x : NodeT} (hx : x ∈ z0r ns r) : ∃ y ∈ ns, x.name = y.name := by
 obtain ⟨q, hq, rfl⟩ := List.mem_map.1 hx
 exact ⟨nd ns q, zje (z40 hn hr hq).2, rfl⟩
theorem zpy {ns : List NodeT} (hg : Gd ns) (hk : ∀ x ∈ ns, x.ok) {r : Nat} (hr : r < ns.length) : TreeT.ok ⟨z0r ns r, 0⟩ := by
 have hgl := zjo hg hr
 have h60 := hgl.len
 refine ⟨⟨by unfold LOk; show (z0r ns r).length ≤ _; omega, fun x hx => ?_⟩, by unfold IOk; show -9223372036854775808 ≤ (0 : Int) ∧ (0 : Int) ≤ _; omega⟩
 obtain ⟨y, hy, e⟩ := zah hg.rt hr hx
 obtain ⟨i, hi, rfl⟩ := List.mem_iff_getElem.1 hx
 have h4 := hgl.kids i hi
 have hlow := hgl.low i hi
 rw [z2j hi] at h4 hlow
 refine ⟨by rw [e]; exact (hk y hy).1, by unfold LOk; omega, fun k hk => ?_⟩
 have := hlow k hk
 unfold IOk; omega
theorem zwp {ns : List NodeT} (hg : Gd ns) (hk : ∀ x ∈ ns, x.ok) (hnm : ∀ x ∈ ns, z0z x.name = true) {r : Nat} (hr : r < ns.length) : Lst ⟨z0r ns r, 0⟩ where
 gdt := ⟨zjo hg hr, by show (0 : Int) ≤ 0; omega, by show (0 : Int) < (z0r ns r).length; have := z7d hg.rt hr; omega, fun x hx => by obtain ⟨y, hy, e⟩ := zah hg.rt hr hx; rw [e]; exact hnm y hy⟩
 tok := zpy hg hk hr
 root := rfl
 sep := fun hc hd h => zpx hg.rt hr hc hd h
 same := zhk hg.rt hr
theorem zfm {t : TreeT} (h : Ok t) (ht : t.ok) : Lst (z2c t) := zwp h.gd ht.1.2 h.nm h.nat.2
theorem Lst.fix {t : TreeT} (h : Lst t) : z2c t = t := by
 have h1 := h.same
 have h2 := h.root
 unfold z2c
 rw [h2]
 show TreeT.mk (z0r t.nodes 0) 0 = t
 rw [h1, ← h2]
theorem Lst.pos {t : TreeT} (h : Lst t) : 0 < t.nodes.length := by
 have := h.gdt.rh
 rw [h.root] at this
 omega
noncomputable def subT (t : TreeT) (k : Nat) : TreeT := ⟨z0r t.nodes k, 0⟩
theorem Lst.sub {t : TreeT} (h : Lst t) {k : Nat} (hk : k < t.nodes.length) : Lst (subT t k) := zwp h.gdt.gd h.tok.1.2 h.gdt.nm hk
theorem Lst.at_ {t : TreeT} (h : Lst t) {k : Nat} (hk : k < t.nodes.length) : Ok ⟨t.nodes, (k : Int)⟩ ∧ TreeT.ok ⟨t.nodes, (k : Int)⟩ ∧ z2c ⟨t.nodes, (k : Int)⟩ = subT t k := by
 have := h.gdt.gd.len
 exact ⟨⟨h.gdt.gd, by show (0 : Int) ≤ k; omega, by show (k : Int) < t.nodes.length; omega, h.gdt.nm⟩, ⟨h.tok.1, by unfold IOk; show _ ∧ (k : Int) ≤ _; constructor <;> (try show _ ≤ (k : Int)) <;> omega⟩, rfl⟩
def Lg (g : GoalT) : Prop := ∀ t ∈ g.args, Lst t
theorem zjk {g : GoalT} (h : Og g) : Lg (z1i g) := fun t ht => by
 obtain ⟨u, hu, rfl⟩ := List.mem_map.1 ht
 exact zfm (h u hu).1 (h u hu).2
theorem Lg.og {g : GoalT} (h : Lg g) : Og g := fun t ht => ⟨(h t ht).gdt, (h t ht).tok⟩
theorem Lg.fix {g : GoalT} (h : Lg g) : z1i g = g := by
 unfold z1i
 have : g.args.map z2c = g.args := by
  have : g.args.map z2c = g.args.map id := List.map_congr_left fun t ht => (h t ht).fix
  simpa using this
 rw [this]
theorem y3t {g : GoalT} (hg : g.ok) (h : z0o z0b g.args = 0) : Og g := fun t ht => by
 refine ⟨z6l ?_, hg.2.2 t ht⟩
 apply Classical.byContradiction
 intro h0
 unfold z0o at h
 cases hf : g.args.find? (fun t => decide (z0b t ≠ 0)) with
 | none =>
  rw [List.find?_eq_none] at hf
  have := hf t ht
  simp at this
  exact h0 this
 | some u =>
  rw [hf] at h
  have := List.find?_some hf
  simp at this
  exact this h
noncomputable def z9x (a b : GoalT) : Bool := decide (z0o z0b a.args = 0) && (decide (z0o z0b b.args = 0) && decide (z1i a = z1i b))
end Go.Lift.K
namespace Go.Lift.K
open Go Go.Lift Classical
set_option maxRecDepth 100000
theorem za5 {g : GoalT} (hl : g.args.length ≤ 1000000) (hk : Og g) (st : St) : z06 G (.fn 26 [] []) [.d g.d] st = some (.d (z1i g).d, st) := by
 have hgd : (z1i g).d = .agg [.str g.rel, .sl ((g.args.map z2c).map TreeT.d)] := rfl
 obtain ⟨M, hM⟩ : ∃ M, M = g.args.map z2c := ⟨_, rfl⟩
 rw [← hM] at hgd
 have hMl : M.length = g.args.length := by rw [hM, List.length_map]
 have hMi : ∀ i (h : i < g.args.length), M[i] = z2c g.args[i] := fun i h => by simp only [hM, List.getElem_map]
 have hx0 : ∀ a b : V, [a, b][0]? = some a := fun _ _ => rfl
 have hx1 : ∀ a b : V, [a, b][1]? = some b := fun _ _ => rfl
 rw [hgd]
 refine z15 (ds := [g.d]) (rs := [.agg [.str g.rel, .sl (M.map TreeT.d)]]) T1.g26 rfl rfl (fun e w_len harg => ?_) st
 have w_len : e.length = 31 := w_len
 have w_0 := harg 0 (by simp)
 clear harg
 simp only [List.map_cons, List.map_nil, List.getD_cons_zero] at w_0
 simp only [T1.i26, GoalT.d, w_len, w_0, ↓LA, LB, simprocAttr]
 refine z0e (fun e0 s0 m env st => ∃ (i nxi lwi : Nat) (si : List (Nat × Obj)) (xv : V), m = g.args.length - i ∧ (i ≤ g.args.length) ∧ (Gr si false 7 0 nxi 2 true xv ((M.take i).map TreeT.d)) ∧ sget si (0) = some (.cells [.d (.str g.rel), .d (.sl (g.args.map TreeT.d))]) ∧ sget si (1) = some (.cells [.d (.str []), .nilS]) ∧ sget si (5) = some (.cells [.d (.str g.rel), xv]) ∧ 7 ≤ nxi ∧ 0 ≤ lwi ∧ env.length = 31 ∧ env.getD 14 .undef = .d (.int .i64 i) ∧ env.getD 1 .undef = .ptr 0 0 ∧ env.getD 2 .undef = .ptr 1 0 ∧ env.getD 3 .undef = .ptr 5 0 ∧ env.getD 12 .undef = .d (.sl (g.args.map TreeT.d)) ∧ env.getD 13 .undef = .d (.int .i64 g.args.length) ∧ st = { s := si, next := nxi, low := lwi }) ?_ (g.args.length) (by refine ⟨0, _, _, _, .nilS, rfl, by omega, Gr.nil, ?_, ?_, ?_, (by omega), Nat.zero_le _, ?_, ?_, ?_, ?_, ?_, ?_, ?_, rfl⟩ <;> simp only [w_len, LB, simprocAttr])
 rintro m env st ⟨i, nxi, lwi, si, xv, hm, a_0, a_1, w_ac0, w_ac1, w_ac2, w_ab, w_alo, w_len, w_14, w_1, w_2, w_3, w_12, w_13, rfl⟩
 have w_aN := aI (cf1 (x := nxi) (a := 0) (by omega)) (aI (cf1 (x := nxi) (a := 1) (by omega)) (cf1 (x := nxi) (a := 5) (by omega)))
 have w_aS := aI (cf2 (x := nxi) (by omega) w_ac0) (aI (cf2 (x := nxi) (by omega) w_ac1) (cf2 (x := nxi) (by omega) w_ac2))
 have w_aZ := zf0 (x := nxi) (n := 7) (by omega)
 have w_a_1V := aI (a_1.away (j := 0) (by omega)) (aI (a_1.away (j := 1) (by omega)) (a_1.away (j := 5) (by omega)))
 have w_a_1c := a_1.cell.1
 have w_a_1d := a_1.cell.2
 have w_a_1e := a_1.beq
 by_cases hi : i < g.args.length
 ·have hi2 : i < M.length := by omega
  obtain ⟨h1, h2⟩ := hk _ (List.getElem_mem hi)
  have hD := fun st => zjn h2 h1.spec st
  rw [← hMi i hi] at hD
  simp only [TreeT.d] at hD
  simp only [hi, z4p hi, hD, hx0, hx1, w_len, w_14, w_3, w_12, w_13, w_ac2, w_aN, ↓LA, LB, simprocAttr]
  refine z5i a_1 ?_ (z0j fun a => z2n) z02 ?_ ?_ ?_ ?_ ?_ fun chc0 hc0 => ?_
  ·intro j h1 h2; simp (disch := omega) only [z00]
  ·rfl
  ·omega
  ·simp; omega
  ·simp; omega
  ·exact rfl
  simp only [z08 hi (by omega), w_len, w_14, w_3, w_ac2, w_aN, w_a_1V, ↓LA, LB, simprocAttr]
  have hn : (M.take (i + 1)).map TreeT.d = (M.take i).map TreeT.d ++ [M[i].d] := by rw [z4j hi2, List.map_append]; rfl
  exact z0c (by refine ⟨_, by omega, i + 1, _, _, _, .arr (nxi + 17) 2 true 0 (((M.take i).map TreeT.d).length + 1), rfl, by omega, (by rw [hn]; exact z5o hc0 (by intro j h1 h2 h3; simp (disch := omega) only [z00, z03, z07 h3]) (by omega) (by omega) (by omega) z02 rfl ⟨CV.data, CV.int, trivial⟩), ?_, ?_, ?_, (by omega), Nat.zero_le _, ?_, ?_, ?_, ?_, ?_, ?_, ?_, rfl⟩ <;> simp only [w_len, w_1, w_2, w_3, w_12, w_13, w_ac0, w_ac1, w_ac2, w_aN, w_a_1V, LB, simprocAttr])
 ·have ht : M.take i = M := List.take_of_length_le (by omega)
  have hga := a_1
  rw [ht] at hga
  simp only [hi, w_len, w_14, w_2, w_3, w_13, w_ac1, w_ac2, w_aS, w_a_1c, ↓LA, LB, simprocAttr]
  refine rql1 (x := .agg [.str g.rel, .sl (M.map TreeT.d)]) (znp (lv := false) (lo := 7) (n := 1) (hi := nxi) (m := 11) (by omega) (by decide) ⟨CV.str, (hga.frame (by intro j h1 h2; simp (disch := omega) only [z03])).cv (by omega) (z0j fun a => z2n), trivial⟩) rfl
def z5r (r : RulesT) (n : Int) (g : GoalT) : Int := if z0w r g = 0 then (if n < 0 ∨ (r.clauses.length : Int) ≤ n then 1 else 0) else z0w r g
theorem zi4 {r : RulesT} (hr : r.ok) {n : Int} {g : GoalT} (hg : g.ok) (st : St) : z06 G (.fn 24 [] []) [.d r.d, .d (.int .i64 n), .d g.d] st = some (.d (.int .i64 (z5r r n g)), st) := by
 have hC := fun st => zj8 hr hg st
 simp only [RulesT.d, GoalT.d] at hC
 refine z15 (ds := [r.d, .int .i64 n, g.d]) (rs := [.int .i64 (z5r r n g)]) T1.g24 rfl rfl (fun e w_len harg => ?_) st
 have w_len : e.length = 23 := w_len
 have w_0 := harg 0 (by simp)
 have w_1 := harg 1 (by simp)
 have w_2 := harg 2 (by simp)
 clear harg
 simp only [List.map_cons, List.map_nil, List.getD_cons_zero, List.getD_cons_succ] at w_0 w_1 w_2
 by_cases h0 : z0w r g = 0
 ·by_cases h1 : n < 0
  ·simp only [T1.i24, RulesT.d, GoalT.d, hC, h0, h1, w_len, w_0, w_1, w_2, ↓LA, LB, simprocAttr]
   exact rq1 (by simp [z5r, h0, h1])
  ·by_cases h2 : (r.clauses.length : Int) ≤ n
   ·simp only [T1.i24, RulesT.d, GoalT.d, hC, h0, h1, h2, List.length_map, w_len, w_0, w_1, w_2, ↓LA, LB, simprocAttr]
    exact rq1 (by simp [z5r, h0, h1, h2])
   ·simp only [T1.i24, RulesT.d, GoalT.d, hC, h0, h1, h2, List.length_map, w_len, w_0, w_1, w_2, ↓LA, LB, simprocAttr]
    exact rq1 (by simp [z5r, h0, h1, h2])
 ·simp only [T1.i24, RulesT.d, GoalT.d, hC, h0, w_len, w_0, w_2, ↓LA, LB, simprocAttr]
  exact rq1 (by simp [z5r, h0])
end Go.Lift.K
namespace Go.Lift.K
open Go Go.Lift
set_option maxRecDepth 100000
theorem zvy {f : Nat} : V.beq (.fn f [] []) (.fn f [] []) = true := by simp [V.beq, V.beqL]
def z8v (a b : TreeT) : List V := [.d (.sl (a.nodes.map NodeT.d)), .d (.int .i64 a.root), .d (.sl (b.nodes.map NodeT.d)), .d (.int .i64 b.root), .fn 61 [] []]
theorem zjc {a b : TreeT} {kd : Nat} {s : List (Nat × Obj)} {nx lw : Nat} (hkd : kd < nx) (hk : sget s kd = some (.cells (z8v a b))) {p : Nat × Nat} (h1 : p.1 < a.nodes.length) (h2 : p.2 < b.nodes.length) :
  z06 G (.fn 86 [] []) [.ptr kd 0, .d (prD p)] { s := s, next := nx, low := lw } = some (.tup [.d a.nodes[p.1].d, .d b.nodes[p.2].d], { s := s, next := nx, low := lw }) := by
 have w_k := hk
 unfold z8v at w_k
 have hne : ∀ q, (nx + q = kd) = False := fun q => by simp; omega
 have hne0 : (nx = kd) = False := by simp; omega
 refine z5e (first := []) (args := [.ptr kd 0, .d (prD p)]) (cap := []) (us := [.d a.nodes[p.1].d, .d b.nodes[p.2].d]) T1.g86 rfl rfl rfl (fun e w_len harg => ?_)
 have w_len : e.length = 26 := w_len
 have w_0 : e.getD 0 .undef = .ptr kd 0 := harg 0 (by simp)
 have w_1 : e.getD 1 .undef = .d (prD p) := harg 1 (by simp)
 clear harg
 simp only [T1.i86, prD, zvy, w_k, hne, hne0, iaP0, iaP1, z32 h1, z32 h2, w_len, w_0, w_1, ↓LA, LB, simprocAttr]
 exact ru2 (by first | exact Nat.le_refl _ | exact z01 (Nat.le_refl _) (by omega) | exact z01 (z01 (Nat.le_refl _) (by omega)) (by omega)) rfl
theorem zes {a b : TreeT} (ha : a.ok) (hb : b.ok) {kd : Nat} {s : List (Nat × Obj)} {nx lw : Nat} (hkd : kd < nx) (hk : sget s kd = some (.cells (z8v a b))) {p : Nat × Nat} (h1 : p.1 < a.nodes.length) (h2 : p.2 < b.nodes.length) :
  z06 G (.fn 62 [] []) [.ptr kd 0, .d (prD p)] { s := s, next := nx, low := lw } = some (.d (.bool (difS a.nodes[p.1] b.nodes[p.2])), { s := s, next := nx, low := lw }) := by
 have hn1 : a.nodes[p.1].ok := ha.1.2 _ (List.getElem_mem h1)
 have hn2 : b.nodes[p.2].ok := hb.1.2 _ (List.getElem_mem h2)
 have hl1 := hn1.2.1
 have hl2 := hn2.2.1
 unfold LOk at hl1 hl2
 have hN : ∀ nx' lw' (q : List (Nat × Obj)), Sub nx s q → nx ≤ nx' → z06 G (.fn 86 [] []) [.ptr kd 0, .d (.agg [.int .i64 (p.1 : Nat), .int .i64 (p.2 : Nat)])] { s := q, next := nx', low := lw' } = some (.tup [.d (.agg [.str a.nodes[p.1].name, .sl (a.nodes[p.1].kids.map (D.int .i64))]), .d (.agg [.str b.nodes[p.2].name, .sl (b.nodes[p.2].kids.map (D.int .i64))])], { s := q, next := nx', low := lw' }) := fun nx' lw' q h h' =>
  zjc (by omega) (by rw [h kd hkd]; exact hk) h1 h2
 have hx0 : ∀ a b : V, [a, b][0]? = some a := fun _ _ => rfl
 have hx1 : ∀ a b : V, [a, b][1]? = some b := fun _ _ => rfl
 refine z5e (first := []) (args := [.ptr kd 0, .d (prD p)]) (cap := []) (us := [.d (.bool (difS a.nodes[p.1] b.nodes[p.2]))]) T1.g62 rfl rfl rfl (fun e w_len harg => ?_)
 have w_len : e.length = 27 := w_len
 have w_0 : e.getD 0 .undef = .ptr kd 0 := harg 0 (by simp)
 have w_1 : e.getD 1 .undef = .d (prD p) := harg 1 (by simp)
 clear harg
 by_cases hn : a.nodes[p.1].name = b.nodes[p.2].name
 ·simp only [T1.i62, prD, w_len, w_0, w_1, ↓LA, LB, simprocAttr]
  rw [hN _ _ _ (by exact Sub.cons (n := nx) (by omega)) (by omega)]
  by_cases hk : a.nodes[p.1].kids.length = b.nodes[p.2].kids.length
  ·simp only [hx0, hx1, hn, ceq hk, List.length_map, w_len, ↓LA, LB, simprocAttr]
   exact ru1 (by first | exact Nat.le_refl _ | exact z01 (Nat.le_refl _) (by omega) | exact z01 (z01 (Nat.le_refl _) (by omega)) (by omega)) (by simp [difS, hn, hk])
  ·simp only [hx0, hx1, hn, cne hk, List.length_map, w_len, ↓LA, LB, simprocAttr]
   exact ru1 (by first | exact Nat.le_refl _ | exact z01 (Nat.le_refl _) (by omega) | exact z01 (z01 (Nat.le_refl _) (by omega)) (by omega)) (by simp [difS, hn, hk])
 ·simp only [T1.i62, prD, w_len, w_0, w_1, ↓LA, LB, simprocAttr]
  rw [hN _ _ _ (by exact Sub.cons (n := nx) (by omega)) (by omega)]
  simp only [hx0, hx1, hn, w_len, ↓LA, LB, simprocAttr]
  exact ru1 (by first | exact Nat.le_refl _ | exact z01 (Nat.le_refl _) (by omega) | exact z01 (z01 (Nat.le_refl _) (by omega)) (by omega)) (by simp [difS, hn])
end Go.Lift.K
namespace Go.Lift.K
open Go Go.Lift
set_option maxRecDepth 100000
def kidp (a b : List NodeT) (p : Nat × Nat) (n : Nat) : List (Nat × Nat) := (List.range n).map fun j => (kid a p.1 j, kid b p.2 j)
theorem z7f {a b : List NodeT} {p : Nat × Nat} {n : Nat} : (kidp a b p n).length = n := by simp [kidp]
theorem zq2 {a b : List NodeT} {p : Nat × Nat} {n : Nat} : kidp a b p (n + 1) = kidp a b p n ++ [(kid a p.1 n, kid b p.2 n)] := by simp [kidp, List.range_succ]
theorem zho {s : List (Nat × Obj)} {S : Nat → Prop} {b n es : Nat} {ag : Bool} {v : V} {ds : List D} (hb : ∀ j, S j → b ≤ j) (h : GP s false S n es ag v ds) (h0 : 0 < es) (he : ∀ x ∈ ds, Elt es ag x) (hn : n + 1 < z09) : snap s b z09 v = some (.sl ds) :=
 CQ.snap (n := n + 1) (m := z09) hb hn (h.cv h0 he)
theorem z47 {s : List (Nat × Obj)} {lv : Bool} {lo n hi es nx l : Nat} {ag : Bool} {v : V} {ds : List D} (h : Gr s lv lo n hi es ag v ds) (h1 : nx ≤ lo) (h2 : nx ≤ l) : nx ≤ z8u v l := by
 rcases h with ⟨rfl, _⟩ | ⟨k, cs, rfl, hS, _⟩
 ·exact h2
 ·exact z01 h2 (Nat.le_trans h1 hS.1)
def z8s (l : List (Nat × Nat)) : V := if l = [] then .nilS else .d (.sl (l.map prD))
set_option maxHeartbeats 4000000 in
theorem zrg {a b : TreeT} (ga : Gd a.nodes) (gb : Gd b.nodes) {kd : Nat} {s : List (Nat × Obj)} {nx lw : Nat} (hkd : kd < nx) (hk : sget s kd = some (.cells (z8v a b))) {p : Nat × Nat} (h1 : p.1 < a.nodes.length) (h2 : p.2 < b.nodes.length) (hd : difS a.nodes[p.1] b.nodes[p.2] = false) :
  z06 G (.fn 88 [] []) [.ptr kd 0, .d (prD p)] { s := s, next := nx, low := lw } = some (z8s (kidp a.nodes b.nodes p a.nodes[p.1].kids.length), { s := s, next := nx, low := lw }) := by
 obtain ⟨hdn, hdk⟩ := zb4.1 hd
 have hk1 := ga.kids _ h1
 rw [z2j h1] at hk1
 have hN : ∀ nx' lw' (q : List (Nat × Obj)), Sub nx s q → nx ≤ nx' → z06 G (.fn 86 [] []) [.ptr kd 0, .d (.agg [.int .i64 (p.1 : Nat), .int .i64 (p.2 : Nat)])] { s := q, next := nx', low := lw' } = some (.tup [.d (.agg [.str a.nodes[p.1].name, .sl (a.nodes[p.1].kids.map (D.int .i64))]), .d (.agg [.str b.nodes[p.2].name, .sl (b.nodes[p.2].kids.map (D.int .i64))])], { s := q, next := nx', low := lw' }) := fun nx' lw' q h h' =>
  zjc (by omega) (by rw [h kd hkd]; exact hk) h1 h2
 have hx0 : ∀ a b : V, [a, b][0]? = some a := fun _ _ => rfl
 have hx1 : ∀ a b : V, [a, b][1]? = some b := fun _ _ => rfl
 refine z5e (first := []) (args := [.ptr kd 0, .d (prD p)]) (cap := []) (us := [z8s (kidp a.nodes b.nodes p a.nodes[p.1].kids.length)]) T1.g88 rfl rfl rfl (fun e w_len harg => ?_)
 have w_len : e.length = 37 := w_len
 have w_0 : e.getD 0 .undef = .ptr kd 0 := harg 0 (by simp)
 have w_1 : e.getD 1 .undef = .d (prD p) := harg 1 (by simp)
 clear harg
 simp only [T1.i88, prD, w_len, w_0, w_1, ↓LA, LB, simprocAttr]
 rw [hN _ _ _ (by exact Sub.cons (n := nx) (by omega)) (by omega)]
 simp only [hx0, hx1, List.length_map, w_len, ↓LA, LB, simprocAttr]
 refine z0e (fun e0 s0 m env st => ∃ (i nxi lwi : Nat) (si : List (Nat × Obj)) (xo : V), m = a.nodes[p.1].kids.length - i ∧ (i ≤ a.nodes[p.1].kids.length) ∧ (Gr si false (nx + 13) 0 nxi 2 true xo ((kidp a.nodes b.nodes p i).map prD)) ∧ (i = 0 → xo = .nilS) ∧ (0 < i → xo ≠ .nilS) ∧ sget si (nx + 8) = some (.cells [.d (.str a.nodes[p.1].name), .d (.sl (a.nodes[p.1].kids.map (D.int .i64)))]) ∧ sget si (nx + 9) = some (.cells [.d (.str b.nodes[p.2].name), .d (.sl (b.nodes[p.2].kids.map (D.int .i64)))]) ∧ nx + 13 ≤ nxi ∧ nx ≤ lwi ∧ env.length = 37 ∧ env.getD 18 .undef = .d (.int .i64 i) ∧ env.getD 5 .undef = .ptr (nx + 8) 0 ∧ env.getD 6 .undef = .ptr (nx + 9) 0 ∧ env.getD 7 .undef = xo ∧ env.getD 16 .undef = .d (.sl (a.nodes[p.1].kids.map (D.int .i64))) ∧ env.getD 17 .undef = .d (.int .i64 a.nodes[p.1].kids.length) ∧ st = { s := si, next := nxi, low := lwi }) ?_ (a.nodes[p.1].kids.length) (by refine ⟨0, _, _, _, .nilS, rfl, by omega, Gr.nil, fun _ => rfl, fun h => absurd h (by omega), ?_, ?_, (by omega), (by first | exact Nat.zero_le _ | omega | exact z01 (by omega) (by omega) | exact z01 (z01 (by omega) (by omega)) (by omega) | exact z01 (z01 (z01 (by omega) (by omega)) (by omega)) (by omega)), ?_, ?_, ?_, ?_, ?_, ?_, ?_, rfl⟩ <;> simp only [w_len, LB, simprocAttr])
 rintro m env st ⟨i, nxi, lwi, si, xo, hm, o_0, o_1, o_2, o_3, w_oc0, w_oc1, w_ob, w_olo, w_len, w_18, w_5, w_6, w_7, w_16, w_17, rfl⟩
 have w_oN := aI (cf1 (x := nxi) (a := nx + 8) (by omega)) (cf1 (x := nxi) (a := nx + 9) (by omega))
 have w_oS := aI (cf2 (x := nxi) (by omega) w_oc0) (cf2 (x := nxi) (by omega) w_oc1)
 have w_oZ := zf (x := nxi) (b := nx) (n := 13) (by omega) (by omega)
 have w_o_1V := aI (o_1.away (j := nx + 8) (by omega)) (o_1.away (j := nx + 9) (by omega))
 have w_o_1c := o_1.cell.1
 have w_o_1d := o_1.cell.2
 have w_o_1e := o_1.beq
 by_cases hi : i < a.nodes[p.1].kids.length
 ·have hi2 : i < b.nodes[p.2].kids.length := by omega
  obtain ⟨e1, _⟩ := ga.at_ h1 hi
  obtain ⟨e2, _⟩ := gb.at_ h2 hi2
  simp only [hi, z3c hi, z3c hi2, e1, e2, w_len, w_18, w_5, w_6, w_7, w_17, w_oc0, w_oc1, ↓LA, LB, simprocAttr]
  have hkpl : (kidp a.nodes b.nodes p i).length = i := z7f
  refine z5i o_1 ?_ (z0j fun a => zxb) z02 ?_ ?_ ?_ ?_ ?_ fun chc0 hc0 => ?_
  ·intro j h1 h2; simp (disch := omega) only [z00]
  ·rfl
  ·omega
  ·simp; omega
  ·simp; omega
  ·exact rfl
  simp only [z08 hi (by omega), w_len, w_18, ↓LA, LB, simprocAttr]
  have hn : (kidp a.nodes b.nodes p (i + 1)).map prD = (kidp a.nodes b.nodes p i).map prD ++ [prD (kid a.nodes p.1 i, kid b.nodes p.2 i)] := by rw [zq2, List.map_append]; rfl
  have hgl := z47 o_1 (by omega : nx ≤ nx + 13) w_olo
  exact z0c (by refine ⟨_, by omega, i + 1, _, _, _, .arr (nxi + 16) 2 true 0 (((kidp a.nodes b.nodes p i).map prD).length + 1), rfl, by omega, (by rw [hn]; exact z5o hc0 (by intro j h1 h2 h3; simp (disch := omega) only [z00, z07 h3]) (by omega) (by omega) (by omega) z02 rfl ⟨CV.int, CV.int, trivial⟩), (fun h => absurd h (by omega)), (fun _ h => by cases h), ?_, ?_, (by omega), (by first | exact Nat.zero_le _ | omega | exact z01 (by omega) (by omega) | exact z01 (z01 (by omega) (by omega)) (by omega) | exact z01 (z01 (z01 (by omega) (by omega)) (by omega)) (by omega)), ?_, ?_, ?_, ?_, ?_, ?_, ?_, rfl⟩ <;> simp only [w_len, w_5, w_6, w_16, w_17, w_oc0, w_oc1, w_oN, w_o_1V, LB, simprocAttr])
 ·have hie : i = a.nodes[p.1].kids.length := by omega
  subst hie
  simp only [hi, w_len, w_18, w_7, w_17, ↓LA, LB, simprocAttr]
  refine ⟨_, rfl, (by show nx ≤ lwi; exact w_olo), ?_⟩
  unfold z8s
  rcases Nat.eq_zero_or_pos a.nodes[p.1].kids.length with h0 | h0
  ·have e : kidp a.nodes b.nodes p a.nodes[p.1].kids.length = [] := List.length_eq_zero_iff.1 (by rw [z7f]; exact h0)
   rw [if_pos e, o_2 h0]; rfl
  ·have e : ¬ kidp a.nodes b.nodes p a.nodes[p.1].kids.length = [] := fun e => by have h' : a.nodes[p.1].kids.length = 0 := (z7f (a := a.nodes) (b := b.nodes) (p := p)).symm.trans (congrArg List.length e); omega
   rw [if_neg e]
   have hs : snap si nx z09 xo = some (.sl ((kidp a.nodes b.nodes p a.nodes[p.1].kids.length).map prD)) := zho (S := Iv (nx + 13) nxi) (b := nx) (n := 0) (es := 2) (ag := true) (fun j hj => Nat.le_trans (Nat.le_add_right _ _) hj.1) o_1 (by decide) (z0j fun a => zxb) (by decide)
   rcases o_1 with ⟨e', _⟩ | ⟨k, cs, rfl, hS, _⟩
   ·exact absurd e' (o_3 h0)
   ·have hkn : ¬ k < nx := by have := hS.1; omega
    simp only [List.length_map] at hs
    simp [z6b, outV, V.under, hkn, hs]
end Go.Lift.K
