/- Part B6 of the proof. -/
import Derived.Test.YtgifbdpjlibbdaaGreatDoorB5
import Derived.Test.YtgifbdpjlibbdaaGreatDoorA7
set_option linter.all false
namespace Go.Lift.K
open Go Go.Lift
set_option maxRecDepth 100000
def zns (n : Nat) : List V := (List.replicate n [V.d (.str []), V.nilS]).flatten
theorem zsm {n : Nat} : zns (n + 1) = .d (.str []) :: .nilS :: zns n := by simp [zns, List.replicate_succ]
theorem z78 {k n i : Nat} {ag : Bool} (h : i < n) : z0k 2 (.arr k 2 ag 0 n) (i : Int) = some (.ptr k (i * 2)) := by
 simp only [z0k]
 rw [if_pos ⟨by omega, by omega, trivial⟩]
 simp
theorem z5a {E : Nat → Nat → Prop} {L : List Nat} {N x : Nat} (hx : x ∈ L) (hn : x < N) : z0k 1 (.d (.sl (nxs E L L.length N))) (x : Int) = some (.dptr [.int .i64 ((cls E (reps E L) x : Nat) : Int)]) := by
 simp only [z0k]
 rw [if_pos (by omega)]
 have : (nxs E L L.length N)[(x : Int).toNat]? = some (.int .i64 ((cls E (reps E L) x : Nat) : Int)) := by
  simp [nxs, hn, hx]
 simp only [this]
 rfl
theorem at0 {P R : List V} {a : V} {n : Nat} (h : P.length = n) : (n + 1 ≤ (P ++ a :: R).length) = True ∧ ((P ++ a :: R).drop n).take 1 = [a] ∧ ∀ x, (P ++ a :: R).take n ++ [x] ++ (P ++ a :: R).drop (n + 1) = P ++ x :: R := by
 subst h
 refine ⟨eq_true (by simp), by simp, fun x => ?_⟩
 rw [List.take_left, List.drop_append, List.drop_eq_nil_of_le (by omega)]
 simp [show P.length + 1 - P.length = 1 by omega]
theorem at1 {P R : List V} {a b : V} {n : Nat} (h : P.length = n) : (n + (1 + 1) ≤ (P ++ a :: b :: R).length) = True ∧ ((P ++ a :: b :: R).drop (n + 1)).take 1 = [b] ∧ ∀ x, (P ++ a :: b :: R).take (n + 1) ++ [x] ++ (P ++ a :: b :: R).drop (n + (1 + 1)) = P ++ a :: x :: R := by
 have := at0 (P := P ++ [a]) (R := R) (a := b) (n := n + 1) (by simp [h])
 simpa [Nat.add_assoc] using this
structure Mg (ns : List NodeT) (L : List Nat) (s : List (Nat × Obj)) (S : Nat → Prop) (i : Nat) (P : List V) : Prop where
 len : P.length = (reps (bis ns ns) (L.take i)).length * 2
 cv : CVs (CQ s false S 1) P (((reps (bis ns ns) (L.take i)).map fun x => (z1x ns (reps (bis ns ns) L) x).d).flatMap cellsD)
 nm : ∀ c (h : c < (reps (bis ns ns) (L.take i)).length), (P.drop (c * 2)).take 1 = [.d (.str (nd ns (reps (bis ns ns) (L.take i))[c]).name)]
theorem y0e {ns : List NodeT} {L : List Nat} {s : List (Nat × Obj)} {S : Nat → Prop} : Mg ns L s S 0 [] := ⟨rfl, trivial, fun c h => by cases h⟩
theorem Mg.frame {ns : List NodeT} {L : List Nat} {s s' : List (Nat × Obj)} {S S' : Nat → Prop} {i : Nat} {P : List V} (h : Mg ns L s S i P) (hs : ∀ j, S j → sget s' j = sget s j) (hS : ∀ j, S j → S' j) : Mg ns L s' S' i P := ⟨h.len, h.cv.imp fun v d hv => (hv.frame hs).mono hS, h.nm⟩
theorem zmq {ns : List NodeT} {L : List Nat} {x : Nat} (hx : x ∈ L) : cls (bis ns ns) (reps (bis ns ns) L) x < (reps (bis ns ns) L).length := (zdf (z2l (fun _ => z3j) hx)).1
section
variable {ns : List NodeT} {L : List Nat} {s : List (Nat × Obj)} {S : Nat → Prop} {i : Nat} {P : List V}
theorem y0d (hi : i < L.length) (h : Mg ns L s S i P) (ho : ∃ r ∈ reps (bis ns ns) (L.take i), bis ns ns r L[i]) : Mg ns L s S (i + 1) P := by
 have e := z2t (E := bis ns ns) z5s hi
 rw [if_pos ho] at e
 obtain ⟨h1, h2, h3⟩ := h
 exact ⟨by rw [e]; exact h1, by rw [e]; exact h2, by rw [e]; exact h3⟩
theorem z8m (hi : i < L.length) (ho : ¬ ∃ r ∈ reps (bis ns ns) (L.take i), bis ns ns r L[i]) : cls (bis ns ns) (reps (bis ns ns) L) L[i] = (reps (bis ns ns) (L.take i)).length := by
 have e := z2t (E := bis ns ns) z5s hi
 rw [if_neg ho] at e
 obtain ⟨m, hm⟩ := zdw (E := bis ns ns) (l := L) (i := i + 1)
 rw [hm, zil (by rw [e]; exact ⟨L[i], by simp, z3j⟩), e, zro ho z3j]
theorem zd3 {x : Nat} (ho : ∃ r ∈ reps (bis ns ns) (L.take i), bis ns ns r x) : ∃ h : cls (bis ns ns) (reps (bis ns ns) L) x < (reps (bis ns ns) (L.take i)).length, (nd ns (reps (bis ns ns) (L.take i))[cls (bis ns ns) (reps (bis ns ns) L) x]).name = (nd ns x).name := by
 obtain ⟨m, hm⟩ := zdw (E := bis ns ns) (l := L) (i := i)
 have e : cls (bis ns ns) (reps (bis ns ns) L) x = cls (bis ns ns) (reps (bis ns ns) (L.take i)) x := by rw [hm, zil ho]
 obtain ⟨h1, h2⟩ := zdf ho
 simp only [e]
 exact ⟨h1, (z5r h2).1⟩
theorem y0f (hi : i < L.length) (h : Mg ns L s S i P) (ho : ¬ ∃ r ∈ reps (bis ns ns) (L.take i), bis ns ns r L[i]) {v : V} (hv : CQ s false S 1 v (.sl ((z1x ns (reps (bis ns ns) L) L[i]).kids.map (D.int .i64)))) :
  Mg ns L s S (i + 1) (P ++ [.d (.str (nd ns L[i]).name), v]) := by
 have e := z2t (E := bis ns ns) z5s hi
 rw [if_neg ho] at e
 obtain ⟨h1, h2, h3⟩ := h
 refine ⟨by rw [e]; simp [h1]; omega, ?_, ?_⟩
 ·rw [e, List.map_append, List.flatMap_append]
  refine CVs.append h2 ?_
  exact ⟨CQ.str, hv, trivial⟩
 ·simp only [e]
  intro c hc
  by_cases hcl : c < (reps (bis ns ns) (L.take i)).length
  ·rw [List.drop_append_of_le_length (by omega), List.take_append_of_le_length (by simp; omega), h3 c hcl]
   simp [hcl]
  ·have : c = (reps (bis ns ns) (L.take i)).length := by simp at hc; omega
   subst this
   rw [← h1, List.drop_left]
   simp
end
theorem y27 {ns : List NodeT} {L : List Nat} {s : List (Nat × Obj)} {S : Nat → Prop} {i : Nat} {P R : List V} (h : Mg ns L s S i P) {c : Nat} (hc : c < (reps (bis ns ns) (L.take i)).length) :
  (c * 2 + 1 ≤ (P ++ R).length) = True ∧ ((P ++ R).drop (c * 2)).take 1 = [.d (.str (nd ns (reps (bis ns ns) (L.take i))[c]).name)] := by
 have h1 := h.len
 refine ⟨eq_true (by simp; omega), ?_⟩
 rw [List.drop_append_of_le_length (by omega), List.take_append_of_le_length (by simp; omega), h.nm c hc]
noncomputable def mxs (ns : List NodeT) (R : List Nat) (x k : Nat) : List D := (List.range (nd ns x).kids.length).map fun q => D.int .i64 (if q < k then ((cls (bis ns ns) R (kid ns x q) : Nat) : Int) else ((kid ns x q : Nat) : Int))
theorem z50 {ns : List NodeT} {R : List Nat} {x k : Nat} : (mxs ns R x k).length = (nd ns x).kids.length := by simp [mxs]
theorem zw6 {ns : List NodeT} {R : List Nat} {x k : Nat} : (mxs ns R x k).all D.sc = true := by simp [mxs, D.sc]
theorem ztp {ns : List NodeT} {R : List Nat} (hg : Gd ns) {x : Nat} (hx : x < ns.length) : ns[x].kids.map (D.int .i64) = mxs ns R x 0 := by
 apply List.ext_getElem
 ·rw [z50, z1w hx, List.length_map]
 ·intro q h1 h2
  rw [List.length_map] at h1
  simp [mxs, (hg.at_ hx h1).1]
theorem y08 {ns : List NodeT} {R : List Nat} {x k : Nat} (h : k < (nd ns x).kids.length) : (mxs ns R x k)[k]'(by rw [z50]; exact h) = .int .i64 (kid ns x k : Nat) := by simp [mxs]
theorem zxz {ns : List NodeT} {R : List Nat} {x k : Nat} : (mxs ns R x k).set k (.int .i64 ((cls (bis ns ns) R (kid ns x k) : Nat) : Int)) = mxs ns R x (k + 1) := by
 apply List.ext_getElem
 ·simp [z50]
 ·intro q h1 h2
  rw [List.getElem_set]
  simp only [mxs, List.getElem_map, List.getElem_range]
  by_cases e : k = q
  ·subst e; simp
  ·rw [if_neg e]
   by_cases h : q < k
   ·rw [if_pos h, if_pos (by omega)]
   ·rw [if_neg h, if_neg (by omega)]
theorem zy0 {ns : List NodeT} {R : List Nat} {x : Nat} : mxs ns R x (nd ns x).kids.length = (z1x ns R x).kids.map (D.int .i64) := by
 unfold z1x
 apply List.ext_getElem
 ·simp [z50, z2o]
 ·intro q h1 h2
  have hq : q < (nd ns x).kids.length := by rw [z50] at h1; exact h1
  have hq' : q < (kds ns x).length := by rw [z2o]; exact hq
  simp [mxs, hq, kid, List.getD_eq_getElem?_getD, hq']
set_option maxHeartbeats 4000000 in
theorem zpa {ns : List NodeT} (hg : Gd ns) (hnm : ∀ i, i < ns.length → (nd ns i).name ≠ []) {r : Nat} (hr : r < ns.length) (st : St) :
  z05 G (.fn 128 [] []) [.d (.sl (ns.map NodeT.d)), .d (.sl (dis (z21 ns r))), .d (.sl (nxs (bis ns ns) (z21 ns r) (z21 ns r).length ns.length)), .d (.int .i64 ((z25 ns r).length : Nat))] st = some (.d (TreeT.d ⟨z0u ns r, 0⟩), st) := by
 have hn := hg.rt
 have hl := hg.len
 obtain ⟨hnd, hlt, hcl, hhd⟩ := z1h hn hr
 have hrl := z5x hn hr
 have hln : z0u ns r = (z25 ns r).map (z1x ns (z25 ns r)) := rfl
 have hLr : z25 ns r = reps (bis ns ns) (z21 ns r) := rfl
 rw [hln, hLr]
 obtain ⟨L, hL⟩ : ∃ L, L = z21 ns r := ⟨_, rfl⟩
 rw [← hL] at hnd hlt hcl hhd hrl ⊢
 have hml := z4g (E := bis ns ns) (l := L)
 have hmk := fun (key : Nat) (st : St) => zg4 (key := key) (es := 2) (eb := 40) (n := (reps (bis ns ns) L).length) (ag := true) (zero := [.d (.str []), .nilS]) (st := st) (by omega) (by omega) rfl rfl
 refine z0f (ds := [.sl (ns.map NodeT.d), .sl (dis L), .sl (nxs (bis ns ns) L L.length ns.length), .int .i64 ((reps (bis ns ns) L).length : Nat)]) (rs := [TreeT.d ⟨(reps (bis ns ns) L).map (z1x ns (reps (bis ns ns) L)), 0⟩]) T1.g128 rfl rfl (fun e w_len harg => ?_) st
 have w_len : e.length = 87 := w_len
 have w_0 := harg 0 (by simp)
 have w_1 := harg 1 (by simp)
 have w_2 := harg 2 (by simp)
 have w_3 := harg 3 (by simp)
 clear harg
 simp only [List.map_cons, List.map_nil, List.getD_cons_zero, List.getD_cons_succ] at w_0 w_1 w_2 w_3
 simp only [T1.i128, hmk, dis_len, w_len, w_1, w_3, ↓LA, LB, simprocAttr]
 have w_x1 : ∀ n, (List.replicate n [V.d (.str []), V.nilS]).flatten = zns n := fun _ => rfl
 have w_x2 : (reps (bis ns ns) []).length = 0 := rfl
 have w_x3 : ∀ n : Nat, n - 0 = n := fun _ => rfl
 refine z09 (fun e0 s0 m env st => ∃ (i nxi lwi : Nat) (si : List (Nat × Obj)) (P : List V), m = L.length - i ∧ (i ≤ L.length) ∧ (Mg ns L si (Iv 6 nxi) i P) ∧ sget si (0) = some (.cells [.nilS, .d (.int .i64 0)]) ∧ sget si (4) = some (.cells [.arr 2 2 true 0 (reps (bis ns ns) L).length, .d (.int .i64 0)]) ∧ sget si (2) = some (.cells (P ++ zns ((reps (bis ns ns) L).length - (reps (bis ns ns) (L.take i)).length))) ∧ 6 ≤ nxi ∧ 0 ≤ lwi ∧ env.length = 87 ∧ env.getD 20 .undef = .d (.int .i64 i) ∧ env.getD 0 .undef = .d (.sl (ns.map NodeT.d)) ∧ env.getD 2 .undef = .d (.sl (nxs (bis ns ns) L L.length ns.length)) ∧ env.getD 8 .undef = .ptr 0 0 ∧ env.getD 9 .undef = .ptr 4 0 ∧ env.getD 18 .undef = .d (.sl (dis L)) ∧ env.getD 19 .undef = .d (.int .i64 L.length) ∧ st = { s := si, next := nxi, low := lwi }) ?_ (L.length) (by refine ⟨0, _, _, _, [], rfl, by omega, y0e, ?_, ?_, ?_, (by omega), Nat.zero_le _, ?_, ?_, ?_, ?_, ?_, ?_, ?_, ?_, rfl⟩ <;> simp only [w_len, w_0, w_2, w_x1, w_x2, w_x3, LB, simprocAttr])
 rintro m env st ⟨i, nxi, lwi, si, P, hm, a_0, a_1, w_ac0, w_ac1, w_ac2, w_ab, w_alo, w_len, w_20, w_0, w_2, w_8, w_9, w_18, w_19, rfl⟩
 have w_aN := And.intro (cf1 (x := nxi) (a := 0) (by omega)) (And.intro (cf1 (x := nxi) (a := 4) (by omega)) (cf1 (x := nxi) (a := 2) (by omega)))
 have w_aS := And.intro (cf2 (x := nxi) (by omega) w_ac0) (And.intro (cf2 (x := nxi) (by omega) w_ac1) (cf2 (x := nxi) (by omega) w_ac2))
 have w_aZ := zf0 (x := nxi) (n := 6) (by omega)
 by_cases hi : i < L.length
 ·have hxL := List.getElem_mem hi
  have hx := hlt L[i] hxL
  have hcm := zmq (ns := ns) hxL
  have hne := hnm _ hx
  by_cases ho : ∃ r ∈ reps (bis ns ns) (L.take i), bis ns ns r L[i]
  ·obtain ⟨h1, h2⟩ := zd3 ho
   have hat := y27 a_1 (R := zns ((reps (bis ns ns) L).length - (reps (bis ns ns) (L.take i)).length)) h1
   rw [h2] at hat
   simp only [hi, z12 hi, z5a hxL hx, z78 hcm, hat, hne, z02 hi (by omega), w_len, w_20, w_2, w_9, w_18, w_19, w_ac1, w_ac2, ↓LA, LB, simprocAttr]
   have w_oe := z2t (E := bis ns ns) z5s hi
   rw [if_pos ho] at w_oe
   exact z08 (by refine ⟨_, by omega, i + 1, _, _, _, P, rfl, by omega, (y0d hi a_1 ho).frame (fun _ _ => rfl) (fun q hq => ⟨hq.1, by have := hq.2; omega⟩), ?_, ?_, ?_, (by omega), Nat.zero_le _, ?_, ?_, ?_, ?_, ?_, ?_, ?_, ?_, rfl⟩ <;> simp only [w_len, w_0, w_2, w_8, w_9, w_18, w_19, w_ac0, w_ac1, w_ac2, w_oe, LB, simprocAttr])
  ·have hcn := z8m hi ho
   have hPl := a_1.len
   rw [hcn] at hcm
   have hz : zns ((reps (bis ns ns) L).length - (reps (bis ns ns) (L.take i)).length) = .d (.str []) :: .nilS :: zns ((reps (bis ns ns) L).length - ((reps (bis ns ns) (L.take i)).length + 1)) := by
    rw [← zsm]; congr 1; omega
   rw [hz] at w_ac2
   have hp0 := fun (x y : V) (R : List V) => at0 (P := P) (R := y :: R) (a := x) hPl
   have hp1 := fun (x y : V) (R : List V) => at1 (P := P) (R := R) (a := x) (b := y) hPl
   have hkl := hg.kids _ hx
   have hk0 := z50 (ns := ns) (R := reps (bis ns ns) L) (x := L[i]) (k := 0)
   have hke0 := ztp (R := reps (bis ns ns) L) hg hx
   have hnd := z1w hx
   have hkl' : ns[L[i]].kids.length ≤ 4 := by rw [← hnd]; exact hkl
   have hmk2 := fun (key : Nat) (st : St) => zj5 (key := key) (eb := 8) (n := ns[L[i]].kids.length) (x := .int .i64 0) (st := st) rfl (by rw [← hnd]; omega) (by rw [← hnd]; omega)
   have hcp : ∀ z nx' lw q, sget z q = some (.cells (scs (List.replicate ns[L[i]].kids.length (D.int .i64 0)))) → z99 { s := z, next := nx', low := lw } 1 (.arr q 1 false 0 ns[L[i]].kids.length) (.d (.sl (ns[L[i]].kids.map (D.int .i64)))) = some (.d (.int .i64 ns[L[i]].kids.length), { s := sset z q (.cells (scs (mxs ns (reps (bis ns ns) L) L[i] 0))), next := nx', low := Nat.min lw q }) := fun z nx' lw q h => by
    have := zut (nx := nx') (lw := lw) (es := 1) (ag := false) (l := ns[L[i]].kids.map (D.int .i64)) h (by simp [z4x]) (z0h fun a => z5o)
    rw [hke0, (z7h zw6).1] at this
    rw [hke0]
    rw [z50, hnd] at this
    exact this
   simp only [hi, z12 hi, z5a hxL hx, hcn, z78 hcm, hp0, hp1, z0j hx, hmk2, hcp, List.length_map, w_len, w_20, w_0, w_2, w_9, w_18, w_19, w_ac1, w_ac2, w_aN, w_aS, ↓LA, LB, simprocAttr]
   refine z09 (fun e0 s0 m env st => ∃ (k nxk lwk : Nat) (sk : List (Nat × Obj)), m = ns[L[i]].kids.length - k ∧ (k ≤ ns[L[i]].kids.length) ∧ (Mg ns L sk (Iv 6 nxi) i P) ∧ sget sk (0) = some (.cells [.nilS, .d (.int .i64 0)]) ∧ sget sk (4) = some (.cells [.arr 2 2 true 0 (reps (bis ns ns) L).length, .d (.int .i64 0)]) ∧ sget sk (2) = some (.cells (P ++ .d (.str ns[L[i]].name) :: .arr (nxi + 33) 1 false 0 ns[L[i]].kids.length :: zns ((reps (bis ns ns) L).length - ((reps (bis ns ns) (L.take i)).length + 1)))) ∧ sget sk (nxi + 33) = some (.cells (scs (mxs ns (reps (bis ns ns) L) L[i] k))) ∧ nxi + 34 ≤ nxk ∧ 0 ≤ lwk ∧ env.length = 87 ∧ env.getD 69 .undef = .d (.int .i64 k) ∧ env.getD 0 .undef = .d (.sl (ns.map NodeT.d)) ∧ env.getD 2 .undef = .d (.sl (nxs (bis ns ns) L L.length ns.length)) ∧ env.getD 8 .undef = .ptr 0 0 ∧ env.getD 9 .undef = .ptr 4 0 ∧ env.getD 12 .undef = .ptr 2 ((reps (bis ns ns) (L.take i)).length * 2) ∧ env.getD 18 .undef = .d (.sl (dis L)) ∧ env.getD 19 .undef = .d (.int .i64 L.length) ∧ env.getD 20 .undef = .d (.int .i64 i) ∧ env.getD 67 .undef = .arr (nxi + 33) 1 false 0 ns[L[i]].kids.length ∧ env.getD 68 .undef = .d (.int .i64 ns[L[i]].kids.length) ∧ st = { s := sk, next := nxk, low := lwk }) ?_ (ns[L[i]].kids.length) (by refine ⟨0, _, _, _, rfl, by omega, a_1.frame (by intro j h; obtain ⟨h1, h2⟩ := h; simp (disch := omega) only [z00, z04]) (fun _ h => h), ?_, ?_, ?_, ?_, (by omega), Nat.zero_le _, ?_, ?_, ?_, ?_, ?_, ?_, ?_, ?_, ?_, ?_, ?_, ?_, rfl⟩ <;> simp only [w_len, w_20, w_0, w_2, w_8, w_9, w_18, w_19, w_ac0, w_ac1, w_aN, w_aS, LB, simprocAttr])
   rintro m env st ⟨k, nxk, lwk, sk, hm, b_0, b_1, w_bc0, w_bc1, w_bc2, w_bc3, w_bb, w_blo, w_len, w_69, w_0, w_2, w_8, w_9, w_12, w_18, w_19, w_20, w_67, w_68, rfl⟩
   have w_bN := And.intro (cf1 (x := nxk) (a := 0) (by omega)) (And.intro (cf1 (x := nxk) (a := 4) (by omega)) (And.intro (cf1 (x := nxk) (a := 2) (by omega)) (cf1 (x := nxk) (a := nxi + 33) (by omega))))
   have w_bS := And.intro (cf2 (x := nxk) (by omega) w_bc0) (And.intro (cf2 (x := nxk) (by omega) w_bc1) (And.intro (cf2 (x := nxk) (by omega) w_bc2) (cf2 (x := nxk) (by omega) w_bc3)))
   have w_bZ := And.intro (zf (x := nxk) (b := nxi) (n := 34) (by omega) (by omega)) (zf0 (x := nxk) (n := 6) (by omega))
   by_cases hk : k < ns[L[i]].kids.length
   ·obtain ⟨hke, hkn⟩ := hg.at_ hx hk
    have hk' : k < (nd ns L[i]).kids.length := by rw [hnd]; exact hk
    have hkL : kid ns L[i] k ∈ L := hcl _ hxL _ (z3c hk')
    have hat := z95 (ds := mxs ns (reps (bis ns ns) L) L[i] k) (i := k) (by rw [z50]; exact hk')
    have hat2 := y08 (R := reps (bis ns ns) L) (k := k) hk'
    have hst := z5i (ds := mxs ns (reps (bis ns ns) L) L[i] k) (i := k) (x := .int .i64 ((cls (bis ns ns) (reps (bis ns ns) L) (kid ns L[i] k) : Nat) : Int)) (by rw [z50]; exact hk')
    simp only [hk, z3f hk, hat, hat2, z5a hkL hkn, hp1, hst, zxz, z02 hk (by omega), w_len, w_69, w_2, w_12, w_67, w_68, w_bc2, w_bc3, ↓LA, LB, simprocAttr]
    exact z08 (by refine ⟨_, by omega, k + 1, _, _, _, rfl, by omega, b_1.frame (by intro j h; obtain ⟨h1, h2⟩ := h; simp (disch := omega) only [z04]) (fun _ h => h), ?_, ?_, ?_, ?_, (by omega), Nat.zero_le _, ?_, ?_, ?_, ?_, ?_, ?_, ?_, ?_, ?_, ?_, ?_, ?_, rfl⟩ <;> simp only [w_len, w_0, w_2, w_8, w_9, w_12, w_18, w_19, w_20, w_67, w_68, w_bc0, w_bc1, w_bc2, w_bS, w_aN, LB, simprocAttr])
   have hke : k = ns[L[i]].kids.length := by omega
   subst hke
   have w_oe := z2t (E := bis ns ns) z5s hi
   rw [if_neg ho] at w_oe
   have w_ol : (reps (bis ns ns) (L.take (i + 1))).length = (reps (bis ns ns) (L.take i)).length + 1 := by rw [w_oe]; simp
   have w_pa : ∀ (x y : V) (R : List V), P ++ [x, y] ++ R = P ++ x :: y :: R := fun x y R => by simp
   simp only [hk, z02 hi (by omega), w_len, w_69, w_20, w_68, ↓LA, LB, simprocAttr]
   have hme := zy0 (ns := ns) (R := reps (bis ns ns) L) (x := L[i])
   rw [hnd] at hme
   have hcq : CQ sk false (fun q => 6 ≤ q ∧ q < nxk) 1 (.arr (nxi + 33) 1 false 0 ns[L[i]].kids.length) (.sl ((z1x ns (reps (bis ns ns) L) L[i]).kids.map (D.int .i64))) := by
    have := zvp (S := fun q => 6 ≤ q ∧ q < nxk) ⟨by omega, by omega⟩ w_bc3 zw6
    rw [z50, hnd] at this
    rw [← hme]
    exact this
   have hmg := y0f hi (b_1.frame (fun _ _ => rfl) (fun q hq => ⟨hq.1, by have := hq.2; omega⟩)) ho hcq
   rw [hnd] at hmg
   exact z08 (by refine ⟨_, by omega, i + 1, _, _, _, P ++ [.d (.str ns[L[i]].name), .arr (nxi + 33) 1 false 0 ns[L[i]].kids.length], rfl, by omega, hmg.frame (fun _ _ => rfl) (fun q hq => ⟨hq.1, by have := hq.2; omega⟩), ?_, ?_, ?_, (by omega), Nat.zero_le _, ?_, ?_, ?_, ?_, ?_, ?_, ?_, ?_, rfl⟩ <;> simp only [w_len, w_0, w_2, w_8, w_9, w_18, w_19, w_bc0, w_bc1, w_bc2, w_ol, w_pa, LB, simprocAttr])
 ·have hie : i = L.length := by omega
  subst hie
  obtain ⟨h1, h2, _⟩ := a_1
  rw [List.take_length] at h1 h2 w_ac2
  rw [Nat.sub_self, show zns 0 = [] from rfl, List.append_nil] at w_ac2
  simp only [hi, w_len, w_20, w_8, w_9, w_19, w_ac0, w_ac1, w_aS, ↓LA, LB, simprocAttr]
  refine rql1 (x := TreeT.d ⟨(reps (bis ns ns) L).map (z1x ns (reps (bis ns ns) L)), 0⟩) (zj1 (lv := false) (S := fun _ => True) (n := 2) (m := 11) (fun _ _ => Nat.zero_le _) (by decide) ⟨?_, CQ.int, trivial⟩) rfl
  refine zdd _ trivial (by rw [z04 (by omega)]; exact w_ac2) (by omega) (z0h fun a => z3p) (by simp) ?_
  rw [List.map_map]
  exact h2.imp fun v d hv => (hv.frame (fun j hj => by obtain ⟨h3, _⟩ := hj; exact z04 (by omega))).mono fun _ _ => trivial
end Go.Lift.K
namespace Go.Lift.K
open Go Go.Lift
set_option maxRecDepth 100000
theorem ru2 {st : St} {next : Nat} {x y : V} {x' y' : V} (hl : next ≤ st.low) (h : z6v st.s next [x, y] = some [x', y']) : RU (some [x, y]) st next [x', y'] := ⟨_, rfl, hl, h⟩
structure Ok (t : TreeT) : Prop where
 gd : Gd t.nodes
 rl : 0 ≤ t.root
 rh : t.root < t.nodes.length
 nm : ∀ x ∈ t.nodes, z0x x.name = true
theorem zj0 {t : TreeT} : z0c t = 0 ↔ (1 ≤ t.nodes.length ∧ t.nodes.length ≤ 60) ∧ (∀ x ∈ t.nodes, x.kids.length ≤ 4) ∧ (∀ x ∈ t.nodes, z0x x.name = true) ∧ (0 ≤ t.root ∧ t.root < t.nodes.length) ∧ ∀ x ∈ t.nodes, ∀ k ∈ x.kids, 0 ≤ k ∧ k < t.nodes.length := by
 unfold z0c
 by_cases h1 : ((t.nodes.length : Int) < 1 ∨ (60 : Int) < t.nodes.length) ∨ t.nodes.all (fun x => decide (x.kids.length ≤ 4)) = false
 ·rw [if_pos h1]
  refine ⟨fun h => (by cases h), fun ⟨h2, h3, _⟩ => ?_⟩
  rcases h1 with h1 | h1
  ·omega
  ·rw [List.all_eq_true.2 (fun x hx => by simpa using h3 x hx)] at h1; cases h1
 rw [if_neg h1]
 by_cases h2 : t.nodes.all (fun x => z0x x.name) = false
 ·rw [if_pos h2]
  refine ⟨fun h => (by cases h), fun ⟨_, _, h3, _⟩ => ?_⟩
  rw [List.all_eq_true.2 h3] at h2; cases h2
 rw [if_neg h2]
 have k1 : t.nodes.all (fun x => decide (x.kids.length ≤ 4)) = true := by
  cases h : t.nodes.all (fun x => decide (x.kids.length ≤ 4)) with
  | true => rfl
  | false => exact absurd (.inr h) h1
 have k2 : t.nodes.all (fun x => z0x x.name) = true := by
  cases h : t.nodes.all (fun x => z0x x.name) with
  | true => rfl
  | false => exact absurd h h2
 rw [List.all_eq_true] at k1 k2
 have e : ∀ k : Int, inR t.nodes.length k = true ↔ 0 ≤ k ∧ k < t.nodes.length := fun k => by simp [inR]
 by_cases h3 : inR t.nodes.length t.root = false ∨ t.nodes.all (fun x => x.kids.all (inR t.nodes.length)) = false
 ·rw [if_pos h3]
  refine ⟨fun h => (by cases h), fun ⟨_, _, _, h4, h5⟩ => ?_⟩
  rcases h3 with h3 | h3
  ·rw [(e _).2 h4] at h3; cases h3
  ·rw [List.all_eq_true.2 (fun x hx => List.all_eq_true.2 fun k hk => (e k).2 (h5 x hx k hk))] at h3; cases h3
 rw [if_neg h3]
 refine ⟨fun _ => ⟨by omega, fun x hx => by simpa using k1 x hx, k2, (e _).1 ?_, fun x hx k hk => (e k).1 ?_⟩, fun _ => rfl⟩
 ·cases h : inR t.nodes.length t.root with
  | true => rfl
  | false => exact absurd (.inl h) h3
 ·cases h : t.nodes.all (fun x => x.kids.all (inR t.nodes.length)) with
  | true => exact List.all_eq_true.1 (List.all_eq_true.1 h x hx) k hk
  | false => exact absurd (.inr h) h3
theorem zjl {ns : List NodeT} {i : Nat} (h : i < ns.length) : nd ns i ∈ ns := by rw [z1w h]; exact List.getElem_mem h
theorem z8c {t : TreeT} (h : z0c t = 0) : Ok t := by
 obtain ⟨h1, h2, h3, h4, h5⟩ := zj0.1 h
 exact ⟨⟨h1.2, fun i hi => h2 _ (zjl hi), fun i hi => h5 _ (zjl hi)⟩, h4.1, h4.2, h3⟩
theorem Ok.spec {t : TreeT} (h : Ok t) : z0c t = 0 := by
 have h1 := h.rl
 have h2 := h.rh
 have hm : ∀ x ∈ t.nodes, ∃ i, i < t.nodes.length ∧ nd t.nodes i = x := fun x hx => by
  obtain ⟨i, hi, rfl⟩ := List.mem_iff_getElem.1 hx
  exact ⟨i, hi, z1w hi⟩
 refine zj0.2 ⟨⟨by omega, h.gd.len⟩, fun x hx => ?_, h.nm, ⟨h1, h2⟩, fun x hx => ?_⟩
 ·obtain ⟨i, hi, rfl⟩ := hm x hx; exact h.gd.kids i hi
 ·obtain ⟨i, hi, rfl⟩ := hm x hx; exact h.gd.low i hi
theorem zug {l : List TreeT} {p : TreeT → Bool} {fv : V} {s : List (Nat × Obj)} {nx lw : Nat} (hl : LOk l) (h : TellsT G fv s nx TreeT.d (· ∈ l) p) :
  z05 G (.fn 155 [] []) [.d (.sl (l.map TreeT.d)), fv] { s := s, next := nx, low := lw } =
   some (match l.find? p with | none => .tup [mkAgg [.nilS, .d (.int .i64 0)], .d (.bool false)] | some t => .tup [.d t.d, .d (.bool true)], { s := s, next := nx, low := lw }) := by
 unfold LOk at hl
 have hI : ∀ nx' lw' (q : List (Nat × Obj)), Sub nx s q → nx ≤ nx' → z05 G (.fn 72 [] []) [.d (.sl (l.map TreeT.d)), fv] { s := q, next := nx', low := lw' } = some (.d (.int .i64 (idxL p l)), { s := q, next := nx', low := lw' }) := fun nx' lw' q h1 h2 =>
  zq9 (es := 2) (ag := true) T1.g72 hl (fun a _ => z1k) (h.sub h1 h2)
 have hne : ∀ a b : Nat, a < b → (b = a) = False := fun a b h => by simp; omega
 rcases z4j (p := p) (l := l) with ⟨e1, e2⟩ | ⟨i, hi, e1, e2⟩
 ·rw [e2]
  have hlt : (-1 : Int) < 0 := by omega
  refine z4p (first := []) (args := [.d (.sl (l.map TreeT.d)), fv]) (cap := []) (us := [mkAgg [.nilS, .d (.int .i64 0)], .d (.bool false)]) T1.g155 rfl rfl rfl (fun e w_len harg => ?_)
  have w_len : e.length = 18 := w_len
  have w_0 : e.getD 0 .undef = .d (.sl (l.map TreeT.d)) := harg 0 (by simp)
  have w_1 : e.getD 1 .undef = fv := harg 1 (by simp)
  clear harg
  have hI' := fun nx' lw' q h1 h2 => hI nx' lw' q h1 h2
  rw [e1] at hI'
  simp only [T1.i155, w_len, w_0, w_1, ↓LA, LB, simprocAttr]
  rw [hI' _ _ _ (by exact (Sub.cons (n := nx) (by omega)).trans (Sub.cons (by omega)) (Nat.le_refl _)) (by omega)]
  simp only [hlt, w_len, ↓LA, LB, simprocAttr]
  exact ru2 (by first | exact Nat.le_refl _ | exact z03 (Nat.le_refl _) (by omega) | exact z03 (z03 (Nat.le_refl _) (by omega)) (by omega)) rfl
 ·rw [e2]
  have hlt : ¬ (i : Int) < 0 := by omega
  refine z4p (first := []) (args := [.d (.sl (l.map TreeT.d)), fv]) (cap := []) (us := [.d l[i].d, .d (.bool true)]) T1.g155 rfl rfl rfl (fun e w_len harg => ?_)
  have w_len : e.length = 18 := w_len
  have w_0 : e.getD 0 .undef = .d (.sl (l.map TreeT.d)) := harg 0 (by simp)
  have w_1 : e.getD 1 .undef = fv := harg 1 (by simp)
  clear harg
  have hI' := fun nx' lw' q h1 h2 => hI nx' lw' q h1 h2
  rw [e1] at hI'
  simp only [T1.i155, w_len, w_0, w_1, ↓LA, LB, simprocAttr]
  rw [hI' _ _ _ (by exact (Sub.cons (n := nx) (by omega)).trans (Sub.cons (by omega)) (Nat.le_refl _)) (by omega)]
  simp only [hlt, z19 hi, w_len, w_0, ↓LA, LB, simprocAttr]
  exact ru2 (by first | exact Nat.le_refl _ | exact z03 (Nat.le_refl _) (by omega) | exact z03 (z03 (Nat.le_refl _) (by omega)) (by omega)) rfl
theorem zyx {t : TreeT} (ht : t.ok) (st : St) : z05 G (.fn 156 [] []) [.d t.d] st = some (.d (.bool (decide (z0c t ≠ 0))), st) := by
 have hT := fun st => zdz ht st
 simp only [TreeT.d] at hT
 refine z0f (ds := [t.d]) (rs := [.bool (decide (z0c t ≠ 0))]) T1.g156 rfl rfl (fun e w_len harg => ?_) st
 have w_len : e.length = 6 := w_len
 have w_0 := harg 0 (by simp)
 clear harg
 simp only [List.map_cons, List.map_nil, List.getD_cons_zero] at w_0
 simp only [T1.i156, TreeT.d, hT, w_len, w_0, ↓LA, LB, simprocAttr]
 exact rq1 (by simp)
theorem zdg {l : List TreeT} (hl : LOk l) (ht : ∀ t ∈ l, t.ok) (st : St) : z05 G (.fn 125 [] []) [.d (.sl (l.map TreeT.d))] st = some (.d (.int .i64 (z0p z0c l)), st) := by
 have hF := fun s nx lw => zug (l := l) (p := fun t => decide (z0c t ≠ 0)) (fv := .fn 156 [] []) (s := s) (nx := nx) (lw := lw) hl (z2c fun a ha st => zyx (ht a ha) st)
 have hx0 : ∀ a b : V, [a, b][0]? = some a := fun _ _ => rfl
 have hx1 : ∀ a b : V, [a, b][1]? = some b := fun _ _ => rfl
 refine z0f (ds := [.sl (l.map TreeT.d)]) (rs := [.int .i64 (z0p z0c l)]) T1.g125 rfl rfl (fun e w_len harg => ?_) st
 have w_len : e.length = 14 := w_len
 have w_0 := harg 0 (by simp)
 clear harg
 simp only [List.map_cons, List.map_nil, List.getD_cons_zero] at w_0
 cases h : l.find? (fun t => decide (z0c t ≠ 0)) with
 | none =>
  rw [h] at hF
  simp only [T1.i125, hF, hx0, hx1, w_len, w_0, ↓LA, LB, simprocAttr]
  exact rq1 (by unfold z0p; rw [h])
 | some t =>
  rw [h] at hF
  have hT := fun st => zdz (ht t (List.mem_of_find?_eq_some h)) st
  simp only [TreeT.d] at hT hF
  simp only [T1.i125, hF, hT, hx0, hx1, w_len, w_0, ↓LA, LB, simprocAttr]
  exact rq1 (by unfold z0p; rw [h])
theorem zcm {s : List (Nat × Obj)} {k : Nat} {l : List TreeT} (h : sget s k = some (.cells (((l.map TreeT.d).flatMap cellsD).map V.d))) : snap s 0 z07 (.arr k 2 true 0 l.length) = some (.sl (l.map TreeT.d)) :=
 CQ.snap (b := 0) (S := fun _ => True) (fun _ _ => Nat.zero_le _) (n := 1) (m := 12) (by decide) (zdd (l.map TreeT.d) trivial h (by omega) (z0h fun a => z1k) (by simp) (z6u (z1t (z0h fun a => z1k)).1))
theorem zju {t : TreeT} (ht : t.ok) (hs : z0c t = 0) (st : St) : z05 G (.fn 99 [] []) [.d t.d] st = some (.tup [.d (z1o t).d, .d (.int .i64 0)], st) := by
 have hk := z8c hs
 have hrl := hk.rl
 have hrh := hk.rh
 obtain ⟨r, hr⟩ : ∃ r : Nat, t.root = r := ⟨t.root.toNat, by omega⟩
 have hrn : r < t.nodes.length := by omega
 have hlr : z1o t = ⟨z0u t.nodes r, 0⟩ := by unfold z1o; rw [hr]; rfl
 have hnm : ∀ i, i < t.nodes.length → z0x (nd t.nodes i).name = true := fun i hi => hk.nm _ (zjl hi)
 have hC : ∀ s nx lw k, sget s k = some (.cells [.d (.sl (t.nodes.map NodeT.d)), .d (.int .i64 r)]) → z05 G (.fn 125 [] []) [.arr k 2 true 0 1] { s := s, next := nx, low := lw } = some (.d (.int .i64 0), { s := s, next := nx, low := lw }) := fun s nx lw k h => by
  have := zdg (l := [t]) (by simp [LOk]) (fun x hx => by rw [List.mem_singleton] at hx; subst hx; exact ht) { s := [], next := 0, low := 0 }
  rw [z1y (fun x hx => by rw [List.mem_singleton] at hx; subst hx; exact hs)] at this
  exact z3b (ds := [.sl ([t].map TreeT.d)]) (rs := [.int .i64 0]) T1.g125 rfl rfl (by have := zcm (l := [t]) (s := s) (k := k) (by rw [h, ← hr]; rfl); simp only [List.length_cons, List.length_nil, Nat.zero_add] at this; simp [z0o, this]) rfl this
 have hB : ∀ s nx lw k, sget s k = some (.cells [.d (.int .i64 r)]) → z05 G (.fn 126 [] []) [.d (.sl (t.nodes.map NodeT.d)), .arr k 1 false 0 1] { s := s, next := nx, low := lw } = some (.d (.sl (dis (z21 t.nodes r))), { s := sset s k (.fz (dis [r])), next := nx, low := Nat.min lw k }) := fun s nx lw k h => by
  exact zm9 (xs := [.sl (t.nodes.map NodeT.d)]) (ys := []) (l := dis [r]) (rs := [.sl (dis (z21 t.nodes r))]) T1.g126 rfl rfl (by omega) (fun x hx => zvq (List.all_eq_true.1 zrg x hx)) (by rw [h]; rfl) (by obtain ⟨_, _, _, m, hm⟩ := z1h hk.gd.rt hrn; rw [hm]; rfl) (zmw hk.gd hrn _)
 have hK := fun st => zmr hk.gd (fun i hi => zjm (hnm i hi)) hrn st
 have hM := fun st => zpa hk.gd (fun i hi e => by have := hnm i hi; rw [e] at this; cases this) hrn st
 have hx0 : ∀ a b : V, [a, b][0]? = some a := fun _ _ => rfl
 have hx1 : ∀ a b : V, [a, b][1]? = some b := fun _ _ => rfl
 simp only [TreeT.d] at hM
 rw [hlr]
 refine z0f (ds := [t.d]) (rs := [TreeT.d ⟨z0u t.nodes r, 0⟩, .int .i64 0]) T1.g99 rfl rfl (fun e w_len harg => ?_) st
 have w_len : e.length = 34 := w_len
 have w_0 := harg 0 (by simp)
 clear harg
 simp only [List.map_cons, List.map_nil, List.getD_cons_zero] at w_0
 simp only [T1.i99, TreeT.d, hr, hC, hB, hK, hM, hx0, hx1, w_len, w_0, ↓LA, LB, simprocAttr]
 exact rq2 rfl
end Go.Lift.K
namespace Go.Lift.K
open Go Go.Lift
set_option maxRecDepth 100000
def difS (x y : NodeT) : Bool := !decide (x.name = y.name) || !decide (x.kids.length = y.kids.length)
theorem zgx {x y : NodeT} (hx : x.ok) (hy : y.ok) (st : St) : z05 G (.fn 119 [] []) [.d x.d, .d y.d] st = some (.d (.bool (difS x y)), st) := by
 have h1 := hx.2.1
 have h2 := hy.2.1
 unfold LOk at h1 h2
 refine z0f (ds := [x.d, y.d]) (rs := [.bool (difS x y)]) T1.g119 rfl rfl (fun e w_len harg => ?_) st
 have w_len : e.length = 19 := w_len
 have w_0 := harg 0 (by simp)
 have w_1 := harg 1 (by simp)
 clear harg
 simp only [List.map_cons, List.map_nil, List.getD_cons_zero, List.getD_cons_succ] at w_0 w_1
 by_cases hn : x.name = y.name
 ·by_cases hk : x.kids.length = y.kids.length
  ·simp only [T1.i119, NodeT.d, hn, ceq hk, List.length_map, w_len, w_0, w_1, ↓LA, LB, simprocAttr]
   exact rq1 (by simp [difS, hn, hk])
  ·simp only [T1.i119, NodeT.d, hn, cne hk, List.length_map, w_len, w_0, w_1, ↓LA, LB, simprocAttr]
   exact rq1 (by simp [difS, hn, hk])
 ·simp only [T1.i119, NodeT.d, hn, w_len, w_0, w_1, ↓LA, LB, simprocAttr]
  exact rq1 (by simp [difS, hn])
def prD (p : Nat × Nat) : D := .agg [.int .i64 (p.1 : Nat), .int .i64 (p.2 : Nat)]
theorem zkp {p : Nat × Nat} : Elt 2 true (prD p) := .inl ⟨rfl, _, rfl, rfl, rfl⟩
def prs (o : List (Nat × Nat)) : List V := ((o.map prD).flatMap cellsD).map V.d
theorem ze2 {p : Nat × Nat} {o : List (Nat × Nat)} : prs (p :: o) = .d (.int .i64 (p.1 : Nat)) :: .d (.int .i64 (p.2 : Nat)) :: prs o := rfl
theorem ze1 : ∀ {o : List (Nat × Nat)}, (prs o).length = o.length * 2
 | [] => rfl
 | p :: o => by rw [ze2, List.length_cons, List.length_cons, ze1, List.length_cons]; omega
theorem zte {o : List (Nat × Nat)} {p : Nat × Nat} : prs (o ++ [p]) = prs o ++ [.d (.int .i64 (p.1 : Nat)), .d (.int .i64 (p.2 : Nat))] := by
 simp [prs, prD, cellsD]
theorem zzv : ∀ {o : List (Nat × Nat)} {i : Nat} (h : i < o.length), (i * 2 + 1 ≤ (prs o).length) = True ∧ (i * 2 + (1 + 1) ≤ (prs o).length) = True ∧ ((prs o).drop (i * 2)).take 1 = [.d (.int .i64 (o[i].1 : Nat))] ∧ ((prs o).drop (i * 2 + 1)).take 1 = [.d (.int .i64 (o[i].2 : Nat))] := by
 intro o i h
 refine ⟨eq_true (by rw [ze1]; omega), eq_true (by rw [ze1]; omega), ?_, ?_⟩
 ·induction o generalizing i with
  | nil => cases h
  | cons p o ih =>
   cases i with
   | zero => rfl
   | succ i =>
    rw [ze2, show (i + 1) * 2 = i * 2 + 1 + 1 by omega, List.drop_succ_cons, List.drop_succ_cons, ih (by simpa using h)]
    simp
 ·induction o generalizing i with
  | nil => cases h
  | cons p o ih =>
   cases i with
   | zero => rfl
   | succ i =>
    rw [ze2, show (i + 1) * 2 + 1 = i * 2 + 1 + 1 + 1 by omega, List.drop_succ_cons, List.drop_succ_cons, ih (by simpa using h)]
    simp
theorem za2 {o : List (Nat × Nat)} {i : Nat} (h : i < o.length) : z0k 2 (.d (.sl (o.map prD))) (i : Int) = some (.dptr [.int .i64 (o[i].1 : Nat), .int .i64 (o[i].2 : Nat)]) := z3e (enc := prD) h rfl
theorem iaA0 {a b : D} : z30 2 1 (.dptr [a, b]) 0 = some (.dptr [a, b]) := rfl
theorem iaA1 {a b : D} : z30 2 1 (.dptr [a, b]) 1 = some (.dptr [b]) := rfl
theorem iaP0 {k o : Nat} : z30 2 1 (.ptr k o) 0 = some (.ptr k o) := rfl
theorem iaP1 {k o : Nat} : z30 2 1 (.ptr k o) 1 = some (.ptr k (o + 1)) := rfl
theorem ze0 {s : List (Nat × Obj)} {k : Nat} {o : List (Nat × Nat)} (h : sget s k = some (.cells (prs o))) : snap s 0 z07 (.arr k 2 true 0 o.length) = some (.sl (o.map prD)) :=
 CQ.snap (b := 0) (S := fun _ => True) (fun _ _ => Nat.zero_le _) (n := 1) (m := 12) (by decide) (zdd (o.map prD) trivial h (by omega) (z0h fun a => zkp) (by simp) (z6u (z1t (z0h fun a => zkp)).1))
theorem y0g {o : List (Nat × Nat)} {x y : Nat} (hl : o.length ≤ 1000000) (st : St) : z05 G (.fn 169 [] []) [.d (.sl (o.map prD)), .d (.int .i64 x), .d (.int .i64 y)] st = some (.d (.bool (decide ((x, y) ∈ o))), st) := by
 refine z0f (ds := [.sl (o.map prD), .int .i64 x, .int .i64 y]) (rs := [.bool (decide ((x, y) ∈ o))]) T1.g169 rfl rfl (fun e w_len harg => ?_) st
 have w_len : e.length = 30 := w_len
 have w_0 := harg 0 (by simp)
 have w_1 := harg 1 (by simp)
 have w_2 := harg 2 (by simp)
 clear harg
 simp only [List.map_cons, List.map_nil, List.getD_cons_zero, List.getD_cons_succ] at w_0 w_1 w_2
 simp only [T1.i169, ↓LA, LB, simprocAttr]
 refine z09 (fun e0 s0 m env st => ∃ (i nxi : Nat), m = o.length - i ∧ (i ≤ o.length) ∧ ((x, y) ∉ o.take i) ∧ env.length = 30 ∧ env.getD 7 .undef = .d (.int .i64 i) ∧ env.getD 0 .undef = .d (.sl (o.map prD)) ∧ env.getD 1 .undef = .d (.int .i64 x) ∧ env.getD 2 .undef = .d (.int .i64 y) ∧ st = { s := s0.s, next := nxi, low := s0.low }) ?_ (o.length) (by refine ⟨0, _, rfl, by omega, by simp, ?_, ?_, ?_, ?_, ?_, rfl⟩ <;> simp only [w_len, w_0, w_1, w_2, LB, simprocAttr])
 rintro m env st ⟨i, nxi, hm, a_0, a_1, w_len, w_7, w_0, w_1, w_2, rfl⟩
 by_cases hi : i < o.length
 ·by_cases h : o[i].1 = x
  ·by_cases h' : o[i].2 = y
   ·simp only [hi, List.length_map, za2 hi, iaA0, iaA1, ceq h, ceq h', w_len, w_7, w_0, w_1, w_2, ↓LA, LB, simprocAttr]
    exact rq1 (by simp; have : (x, y) = o[i] := Prod.ext h.symm h'.symm; rw [this]; exact List.getElem_mem hi)
   ·simp only [hi, List.length_map, za2 hi, iaA0, iaA1, ceq h, cne h', z02 hi (by omega), w_len, w_7, w_0, w_1, w_2, ↓LA, LB, simprocAttr]
    exact z08 (by refine ⟨_, by omega, i + 1, _, rfl, by omega, by rw [z16 hi, List.mem_append, List.mem_singleton]; exact fun k => k.elim a_1 (fun e => h' (by rw [← e])), ?_, ?_, ?_, ?_, ?_, rfl⟩ <;> simp only [w_len, w_0, w_1, w_2, LB, simprocAttr])
  ·simp only [hi, List.length_map, za2 hi, iaA0, cne h, z02 hi (by omega), w_len, w_7, w_0, w_1, ↓LA, LB, simprocAttr]
   exact z08 (by refine ⟨_, by omega, i + 1, _, rfl, by omega, by rw [z16 hi, List.mem_append, List.mem_singleton]; exact fun k => k.elim a_1 (fun e => h (by rw [← e])), ?_, ?_, ?_, ?_, ?_, rfl⟩ <;> simp only [w_len, w_0, w_1, w_2, LB, simprocAttr])
 ·simp only [hi, List.length_map, w_len, w_7, w_0, ↓LA, LB, simprocAttr]
  rw [List.take_of_length_le (by omega)] at a_1
  exact rq1 (by simp [a_1])
end Go.Lift.K
namespace Go.Lift.K
open Go Go.Lift
set_option maxRecDepth 100000
theorem zvh {f : Nat} : V.beq (.fn f [] []) (.fn f [] []) = true := by simp [V.beq, V.beqL]
def z9i (a b : TreeT) : List V := [.d (.sl (a.nodes.map NodeT.d)), .d (.int .i64 a.root), .d (.sl (b.nodes.map NodeT.d)), .d (.int .i64 b.root), .fn 129 [] []]
theorem zjj {a b : TreeT} {kd : Nat} {s : List (Nat × Obj)} {nx lw : Nat} (hkd : kd < nx) (hk : sget s kd = some (.cells (z9i a b))) {p : Nat × Nat} (h1 : p.1 < a.nodes.length) (h2 : p.2 < b.nodes.length) :
  z05 G (.fn 159 [] []) [.ptr kd 0, .d (prD p)] { s := s, next := nx, low := lw } = some (.tup [.d a.nodes[p.1].d, .d b.nodes[p.2].d], { s := s, next := nx, low := lw }) := by
 have w_k := hk
 unfold z9i at w_k
 have hne : ∀ q, (nx + q = kd) = False := fun q => by simp; omega
 have hne0 : (nx = kd) = False := by simp; omega
 refine z4p (first := []) (args := [.ptr kd 0, .d (prD p)]) (cap := []) (us := [.d a.nodes[p.1].d, .d b.nodes[p.2].d]) T1.g159 rfl rfl rfl (fun e w_len harg => ?_)
 have w_len : e.length = 26 := w_len
 have w_0 : e.getD 0 .undef = .ptr kd 0 := harg 0 (by simp)
 have w_1 : e.getD 1 .undef = .d (prD p) := harg 1 (by simp)
 clear harg
 simp only [T1.i159, prD, zvh, w_k, hne, hne0, iaP0, iaP1, z0j h1, z0j h2, w_len, w_0, w_1, ↓LA, LB, simprocAttr]
 exact ru2 (by first | exact Nat.le_refl _ | exact z03 (Nat.le_refl _) (by omega) | exact z03 (z03 (Nat.le_refl _) (by omega)) (by omega)) rfl
theorem zfj {a b : TreeT} (ha : a.ok) (hb : b.ok) {kd : Nat} {s : List (Nat × Obj)} {nx lw : Nat} (hkd : kd < nx) (hk : sget s kd = some (.cells (z9i a b))) {p : Nat × Nat} (h1 : p.1 < a.nodes.length) (h2 : p.2 < b.nodes.length) :
  z05 G (.fn 130 [] []) [.ptr kd 0, .d (prD p)] { s := s, next := nx, low := lw } = some (.d (.bool (difS a.nodes[p.1] b.nodes[p.2])), { s := s, next := nx, low := lw }) := by
 have hn1 : a.nodes[p.1].ok := ha.1.2 _ (List.getElem_mem h1)
 have hn2 : b.nodes[p.2].ok := hb.1.2 _ (List.getElem_mem h2)
 have hl1 := hn1.2.1
 have hl2 := hn2.2.1
 unfold LOk at hl1 hl2
 have hN : ∀ nx' lw' (q : List (Nat × Obj)), Sub nx s q → nx ≤ nx' → z05 G (.fn 159 [] []) [.ptr kd 0, .d (.agg [.int .i64 (p.1 : Nat), .int .i64 (p.2 : Nat)])] { s := q, next := nx', low := lw' } = some (.tup [.d (.agg [.str a.nodes[p.1].name, .sl (a.nodes[p.1].kids.map (D.int .i64))]), .d (.agg [.str b.nodes[p.2].name, .sl (b.nodes[p.2].kids.map (D.int .i64))])], { s := q, next := nx', low := lw' }) := fun nx' lw' q h h' =>
  zjj (by omega) (by rw [h kd hkd]; exact hk) h1 h2
 have hx0 : ∀ a b : V, [a, b][0]? = some a := fun _ _ => rfl
 have hx1 : ∀ a b : V, [a, b][1]? = some b := fun _ _ => rfl
 refine z4p (first := []) (args := [.ptr kd 0, .d (prD p)]) (cap := []) (us := [.d (.bool (difS a.nodes[p.1] b.nodes[p.2]))]) T1.g130 rfl rfl rfl (fun e w_len harg => ?_)
 have w_len : e.length = 27 := w_len
 have w_0 : e.getD 0 .undef = .ptr kd 0 := harg 0 (by simp)
 have w_1 : e.getD 1 .undef = .d (prD p) := harg 1 (by simp)
 clear harg
 by_cases hn : a.nodes[p.1].name = b.nodes[p.2].name
 ·simp only [T1.i130, prD, w_len, w_0, w_1, ↓LA, LB, simprocAttr]
  rw [hN _ _ _ (by exact Sub.cons (n := nx) (by omega)) (by omega)]
  by_cases hk : a.nodes[p.1].kids.length = b.nodes[p.2].kids.length
  ·simp only [hx0, hx1, hn, ceq hk, List.length_map, w_len, ↓LA, LB, simprocAttr]
   exact ru1 (by first | exact Nat.le_refl _ | exact z03 (Nat.le_refl _) (by omega) | exact z03 (z03 (Nat.le_refl _) (by omega)) (by omega)) (by simp [difS, hn, hk])
  ·simp only [hx0, hx1, hn, cne hk, List.length_map, w_len, ↓LA, LB, simprocAttr]
   exact ru1 (by first | exact Nat.le_refl _ | exact z03 (Nat.le_refl _) (by omega) | exact z03 (z03 (Nat.le_refl _) (by omega)) (by omega)) (by simp [difS, hn, hk])
 ·simp only [T1.i130, prD, w_len, w_0, w_1, ↓LA, LB, simprocAttr]
  rw [hN _ _ _ (by exact Sub.cons (n := nx) (by omega)) (by omega)]
  simp only [hx0, hx1, hn, w_len, ↓LA, LB, simprocAttr]
  exact ru1 (by first | exact Nat.le_refl _ | exact z03 (Nat.le_refl _) (by omega) | exact z03 (z03 (Nat.le_refl _) (by omega)) (by omega)) (by simp [difS, hn])
end Go.Lift.K
namespace Go.Lift.K
open Go Go.Lift
set_option maxRecDepth 100000
structure Wi (A B : List NodeT) (x y : Nat) (o : List (Nat × Nat)) : Prop where
 nd : o.Nodup
 lt : ∀ p ∈ o, p.1 < A.length ∧ p.2 < B.length
 hd : (x, y) ∈ o
 al : bis A B x y → ∀ p ∈ o, bis A B p.1 p.2
def Wd (A B : List NodeT) (o : List (Nat × Nat)) (p : Nat × Nat) : Prop := difS (nd A p.1) (nd B p.2) = false ∧ ∀ k, k < (nd A p.1).kids.length → (kid A p.1 k, kid B p.2 k) ∈ o
theorem z62 {a b : NodeT} : difS a b = false ↔ a.name = b.name ∧ a.kids.length = b.kids.length := by simp [difS]
theorem Wi.len {A B : List NodeT} {x y : Nat} {o : List (Nat × Nat)} (h : Wi A B x y o) : o.length ≤ A.length * B.length := by
 have : (o.map fun p => p.1 * B.length + p.2).length ≤ A.length * B.length := by
  refine z42 ?_ fun q hq => ?_
  ·refine List.pairwise_map.2 (List.Pairwise.imp_of_mem (fun {p q} hp hq hne e => hne ?_) h.nd)
   have h1 := (h.lt p hp).2
   have h2 := (h.lt q hq).2
   have e1 : p.1 = q.1 := by
    have a := congrArg (· / B.length) e
    simp only [Nat.mul_comm _ B.length, Nat.mul_add_div (by omega : 0 < B.length), Nat.div_eq_of_lt h1, Nat.div_eq_of_lt h2] at a
    omega
   rw [e1] at e
   exact Prod.ext e1 (by omega)
  ·obtain ⟨p, hp, rfl⟩ := List.mem_map.1 hq
   obtain ⟨h1, h2⟩ := h.lt p hp
   calc p.1 * B.length + p.2 < p.1 * B.length + B.length := by omega
    _ = (p.1 + 1) * B.length := by rw [Nat.add_mul, Nat.one_mul]
    _ ≤ A.length * B.length := Nat.mul_le_mul_right _ h1
 rwa [List.length_map] at this
theorem zvi {A B : List NodeT} {x y : Nat} {o : List (Nat × Nat)} (h : Wi A B x y o) (hd : ∀ p ∈ o, Wd A B o p) : bis A B x y := by
 refine zs4 (R := fun p q => (p, q) ∈ o) ?_ h.hd
 intro p q hpq
 obtain ⟨h1, h2⟩ := hd _ hpq
 obtain ⟨h3, h4⟩ := z62.1 h1
 exact ⟨h3, h4, h2⟩
theorem zvj {A B : List NodeT} {x y : Nat} {o : List (Nat × Nat)} (h : Wi A B x y o) {p : Nat × Nat} (hp : p ∈ o) (hd : difS (nd A p.1) (nd B p.2) = true) : ¬ bis A B x y := fun hb => by
 obtain ⟨h1, h2, _⟩ := z5r (h.al hb p hp)
 rw [z62.2 ⟨h1, h2⟩] at hd
 cases hd
theorem zvk {A B : List NodeT} (ha : Rt A) (hb : Rt B) {x y : Nat} {o : List (Nat × Nat)} (h : Wi A B x y o) {p : Nat × Nat} (hp : p ∈ o) (hd : difS (nd A p.1) (nd B p.2) = false) {k : Nat} (hk : k < (nd A p.1).kids.length) (hn : (kid A p.1 k, kid B p.2 k) ∉ o) :
  Wi A B x y (o ++ [(kid A p.1 k, kid B p.2 k)]) := by
 obtain ⟨h1, h2⟩ := h.lt p hp
 obtain ⟨d1, d2⟩ := z62.1 hd
 refine ⟨?_, ?_, by simp [h.hd], fun hbis q hq => ?_⟩
 ·refine List.nodup_append.2 ⟨h.nd, by simp, fun a ha b hb e => ?_⟩
  rw [List.mem_singleton] at hb
  subst hb; subst e
  exact hn ha
 ·intro q hq
  rcases List.mem_append.1 hq with hq | hq
  ·exact h.lt q hq
  ·rw [List.mem_singleton] at hq; subst hq
   exact ⟨ha _ h1 _ (z3c hk), hb _ h2 _ (z3c (d2 ▸ hk))⟩
 ·rcases List.mem_append.1 hq with hq | hq
  ·exact h.al hbis q hq
  ·rw [List.mem_singleton] at hq; subst hq
   exact (z5r (h.al hbis p hp)).2.2 k hk
def PI (s : List (Nat × Obj)) (ko kq nx n : Nat) (v : V) : Prop := ∃ l : List D, l.all D.sc = true ∧ l.length ≤ n ∧ ((v = .nilS ∧ l = []) ∨ ∃ k, v = .arr k 1 false 0 l.length ∧ k < nx ∧ k ≠ ko ∧ k ≠ kq ∧ sget s k = some (.cells (scs l)))
theorem PI.frame {s s' : List (Nat × Obj)} {ko kq nx n ko' kq' nx' n' : Nat} {v : V} (h : PI s ko kq nx n v) (hs : ∀ k, k < nx → k ≠ ko → k ≠ kq → sget s' k = sget s k) (h1 : ko' = ko ∨ nx ≤ ko') (h2 : kq' = kq ∨ nx ≤ kq') (h3 : nx ≤ nx') (h4 : n ≤ n') : PI s' ko' kq' nx' n' v := by
 obtain ⟨l, a, b, h⟩ := h
 refine ⟨l, a, by omega, h.imp id ?_⟩
 rintro ⟨k, e, c, d, f, g⟩
 exact ⟨k, e, by omega, by omega, by omega, by rw [hs k c d f]; exact g⟩
theorem PI.snap {s : List (Nat × Obj)} {ko kq nx n : Nat} {v : V} (h : PI s ko kq nx n v) : ∃ d, Go.Lift.snap s 0 z07 v = some d := by
 obtain ⟨l, a, b, ⟨rfl, _⟩ | ⟨k, rfl, _, _, _, g⟩⟩ := h
 ·exact ⟨.sl [], by simp [Go.Lift.snap, z07]⟩
 ·exact ⟨_, z9q g a⟩
theorem zku {cs : List V} {i : Nat} (h : i < cs.length) : (i + 1 ≤ cs.length) = True ∧ (cs.drop i).take 1 = [cs[i]] := by
 refine ⟨eq_true (by omega), ?_⟩
 rw [List.drop_eq_getElem_cons h, List.take_succ_cons, List.take_zero]
theorem zjc {s : List (Nat × Obj)} {v : V} {l : List D} (a : l.all D.sc = true) (hl : l.length ≤ 1000000) (h : (v = .nilS ∧ l = []) ∨ ∃ k, v = .arr k 1 false 0 l.length ∧ sget s k = some (.cells (scs l))) {k0 key nx' lw : Nat} (h0 : sget s k0 = some (.cells [])) :
  z0y { s := s, next := nx', low := lw } key 1 false 8 (.arr k0 1 false 0 0) v = some (.arr key 1 false 0 l.length, { s := (key, .cells (scs l)) :: sdel s k0, next := nx', low := Nat.min lw k0 }) := by
 have hr : rdSl { s := s, next := nx', low := lw } 1 v = some (scs l, l.length) := by
  rcases h with ⟨rfl, rfl⟩ | ⟨k, rfl, g⟩
  ·rfl
  ·exact zo3 g
 have hc : (scs l).all V.isCell = true := by
  unfold scs
  rw [List.all_map]
  exact (z7h a).2
 simp only [z0y, hr, St.get, h0]
 rw [if_pos ⟨trivial, trivial, by omega, by omega, hc⟩, if_pos ⟨trivial, by simp⟩]
 simp [St.ins, St.del]
end Go.Lift.K
namespace Go.Lift.K
open Go Go.Lift
set_option maxRecDepth 100000
def kidp (a b : List NodeT) (p : Nat × Nat) (n : Nat) : List (Nat × Nat) := (List.range n).map fun j => (kid a p.1 j, kid b p.2 j)
theorem z7u {a b : List NodeT} {p : Nat × Nat} {n : Nat} : (kidp a b p n).length = n := by simp [kidp]
theorem zpz {a b : List NodeT} {p : Nat × Nat} {n : Nat} : kidp a b p (n + 1) = kidp a b p n ++ [(kid a p.1 n, kid b p.2 n)] := by simp [kidp, List.range_succ]
theorem zql {s : List (Nat × Obj)} {S : Nat → Prop} {b n es : Nat} {ag : Bool} {v : V} {ds : List D} (hb : ∀ j, S j → b ≤ j) (h : GP s false S n es ag v ds) (h0 : 0 < es) (he : ∀ x ∈ ds, Elt es ag x) (hn : n + 1 < z07) : snap s b z07 v = some (.sl ds) :=
 CQ.snap (n := n + 1) (m := z07) hb hn (h.cv h0 he)
theorem zud {s : List (Nat × Obj)} {lv : Bool} {lo n hi es nx l : Nat} {ag : Bool} {v : V} {ds : List D} (h : Gr s lv lo n hi es ag v ds) (h1 : nx ≤ lo) (h2 : nx ≤ l) : nx ≤ zmh v l := by
 rcases h with ⟨rfl, _⟩ | ⟨k, cs, rfl, hS, _⟩
 ·exact h2
 ·exact z03 h2 (Nat.le_trans h1 hS.1)
def z9g (l : List (Nat × Nat)) : V := if l = [] then .nilS else .d (.sl (l.map prD))
set_option maxHeartbeats 4000000 in
theorem zri {a b : TreeT} (ga : Gd a.nodes) (gb : Gd b.nodes) {kd : Nat} {s : List (Nat × Obj)} {nx lw : Nat} (hkd : kd < nx) (hk : sget s kd = some (.cells (z9i a b))) {p : Nat × Nat} (h1 : p.1 < a.nodes.length) (h2 : p.2 < b.nodes.length) (hd : difS a.nodes[p.1] b.nodes[p.2] = false) :
  z05 G (.fn 161 [] []) [.ptr kd 0, .d (prD p)] { s := s, next := nx, low := lw } = some (z9g (kidp a.nodes b.nodes p a.nodes[p.1].kids.length), { s := s, next := nx, low := lw }) := by
 obtain ⟨hdn, hdk⟩ := z62.1 hd
 have hk1 := ga.kids _ h1
 rw [z1w h1] at hk1
 have hN : ∀ nx' lw' (q : List (Nat × Obj)), Sub nx s q → nx ≤ nx' → z05 G (.fn 159 [] []) [.ptr kd 0, .d (.agg [.int .i64 (p.1 : Nat), .int .i64 (p.2 : Nat)])] { s := q, next := nx', low := lw' } = some (.tup [.d (.agg [.str a.nodes[p.1].name, .sl (a.nodes[p.1].kids.map (D.int .i64))]), .d (.agg [.str b.nodes[p.2].name, .sl (b.nodes[p.2].kids.map (D.int .i64))])], { s := q, next := nx', low := lw' }) := fun nx' lw' q h h' =>
  zjj (by omega) (by rw [h kd hkd]; exact hk) h1 h2
 have hx0 : ∀ a b : V, [a, b][0]? = some a := fun _ _ => rfl
 have hx1 : ∀ a b : V, [a, b][1]? = some b := fun _ _ => rfl
 refine z4p (first := []) (args := [.ptr kd 0, .d (prD p)]) (cap := []) (us := [z9g (kidp a.nodes b.nodes p a.nodes[p.1].kids.length)]) T1.g161 rfl rfl rfl (fun e w_len harg => ?_)
 have w_len : e.length = 37 := w_len
 have w_0 : e.getD 0 .undef = .ptr kd 0 := harg 0 (by simp)
 have w_1 : e.getD 1 .undef = .d (prD p) := harg 1 (by simp)
 clear harg
 simp only [T1.i161, prD, w_len, w_0, w_1, ↓LA, LB, simprocAttr]
 rw [hN _ _ _ (by exact Sub.cons (n := nx) (by omega)) (by omega)]
 simp only [hx0, hx1, List.length_map, w_len, ↓LA, LB, simprocAttr]
 refine z09 (fun e0 s0 m env st => ∃ (i nxi lwi : Nat) (si : List (Nat × Obj)) (xo : V), m = a.nodes[p.1].kids.length - i ∧ (i ≤ a.nodes[p.1].kids.length) ∧ (Gr si false (nx + 13) 0 nxi 2 true xo ((kidp a.nodes b.nodes p i).map prD)) ∧ (i = 0 → xo = .nilS) ∧ (0 < i → xo ≠ .nilS) ∧ sget si (nx + 8) = some (.cells [.d (.str a.nodes[p.1].name), .d (.sl (a.nodes[p.1].kids.map (D.int .i64)))]) ∧ sget si (nx + 9) = some (.cells [.d (.str b.nodes[p.2].name), .d (.sl (b.nodes[p.2].kids.map (D.int .i64)))]) ∧ nx + 13 ≤ nxi ∧ nx ≤ lwi ∧ env.length = 37 ∧ env.getD 18 .undef = .d (.int .i64 i) ∧ env.getD 5 .undef = .ptr (nx + 8) 0 ∧ env.getD 6 .undef = .ptr (nx + 9) 0 ∧ env.getD 7 .undef = xo ∧ env.getD 16 .undef = .d (.sl (a.nodes[p.1].kids.map (D.int .i64))) ∧ env.getD 17 .undef = .d (.int .i64 a.nodes[p.1].kids.length) ∧ st = { s := si, next := nxi, low := lwi }) ?_ (a.nodes[p.1].kids.length) (by refine ⟨0, _, _, _, .nilS, rfl, by omega, Gr.nil, fun _ => rfl, fun h => absurd h (by omega), ?_, ?_, (by omega), (by first | exact Nat.zero_le _ | omega | exact z03 (by omega) (by omega) | exact z03 (z03 (by omega) (by omega)) (by omega) | exact z03 (z03 (z03 (by omega) (by omega)) (by omega)) (by omega)), ?_, ?_, ?_, ?_, ?_, ?_, ?_, rfl⟩ <;> simp only [w_len, LB, simprocAttr])
 rintro m env st ⟨i, nxi, lwi, si, xo, hm, o_0, o_1, o_2, o_3, w_oc0, w_oc1, w_ob, w_olo, w_len, w_18, w_5, w_6, w_7, w_16, w_17, rfl⟩
 have w_oN := And.intro (cf1 (x := nxi) (a := nx + 8) (by omega)) (cf1 (x := nxi) (a := nx + 9) (by omega))
 have w_oS := And.intro (cf2 (x := nxi) (by omega) w_oc0) (cf2 (x := nxi) (by omega) w_oc1)
 have w_oZ := zf (x := nxi) (b := nx) (n := 13) (by omega) (by omega)
 have w_o_1V := And.intro (o_1.away (j := nx + 8) (by omega)) (o_1.away (j := nx + 9) (by omega))
 have w_o_1c := o_1.cell.1
 have w_o_1d := o_1.cell.2
 have w_o_1e := o_1.beq
 by_cases hi : i < a.nodes[p.1].kids.length
 ·have hi2 : i < b.nodes[p.2].kids.length := by omega
  obtain ⟨e1, _⟩ := ga.at_ h1 hi
  obtain ⟨e2, _⟩ := gb.at_ h2 hi2
  simp only [hi, z1a hi, z1a hi2, e1, e2, w_len, w_18, w_5, w_6, w_7, w_17, w_oc0, w_oc1, ↓LA, LB, simprocAttr]
  have hkpl : (kidp a.nodes b.nodes p i).length = i := z7u
  refine z3z o_1 ?_ (z0h fun a => zkp) z01 ?_ ?_ ?_ ?_ ?_ fun chc0 hc0 => ?_
  ·intro j h1 h2; simp (disch := omega) only [z00]
  ·rfl
  ·omega
  ·simp; omega
  ·simp; omega
  ·exact rfl
  simp only [z02 hi (by omega), w_len, w_18, ↓LA, LB, simprocAttr]
  have hn : (kidp a.nodes b.nodes p (i + 1)).map prD = (kidp a.nodes b.nodes p i).map prD ++ [prD (kid a.nodes p.1 i, kid b.nodes p.2 i)] := by rw [zpz, List.map_append]; rfl
  have hgl := zud o_1 (by omega : nx ≤ nx + 13) w_olo
  exact z08 (by refine ⟨_, by omega, i + 1, _, _, _, .arr (nxi + 16) 2 true 0 (((kidp a.nodes b.nodes p i).map prD).length + 1), rfl, by omega, (by rw [hn]; exact z34 hc0 (by intro j h1 h2 h3; simp (disch := omega) only [z00, z0d h3]) (by omega) (by omega) (by omega) z01 rfl ⟨CV.int, CV.int, trivial⟩), (fun h => absurd h (by omega)), (fun _ h => by cases h), ?_, ?_, (by omega), (by first | exact Nat.zero_le _ | omega | exact z03 (by omega) (by omega) | exact z03 (z03 (by omega) (by omega)) (by omega) | exact z03 (z03 (z03 (by omega) (by omega)) (by omega)) (by omega)), ?_, ?_, ?_, ?_, ?_, ?_, ?_, rfl⟩ <;> simp only [w_len, w_5, w_6, w_16, w_17, w_oc0, w_oc1, w_oN, w_o_1V, LB, simprocAttr])
 ·have hie : i = a.nodes[p.1].kids.length := by omega
  subst hie
  simp only [hi, w_len, w_18, w_7, w_17, ↓LA, LB, simprocAttr]
  refine ⟨_, rfl, (by show nx ≤ lwi; exact w_olo), ?_⟩
  unfold z9g
  rcases Nat.eq_zero_or_pos a.nodes[p.1].kids.length with h0 | h0
  ·have e : kidp a.nodes b.nodes p a.nodes[p.1].kids.length = [] := List.length_eq_zero_iff.1 (by rw [z7u]; exact h0)
   rw [if_pos e, o_2 h0]; rfl
  ·have e : ¬ kidp a.nodes b.nodes p a.nodes[p.1].kids.length = [] := fun e => by have h' : a.nodes[p.1].kids.length = 0 := (z7u (a := a.nodes) (b := b.nodes) (p := p)).symm.trans (congrArg List.length e); omega
   rw [if_neg e]
   have hs : snap si nx z07 xo = some (.sl ((kidp a.nodes b.nodes p a.nodes[p.1].kids.length).map prD)) := zql (S := Iv (nx + 13) nxi) (b := nx) (n := 0) (es := 2) (ag := true) (fun j hj => Nat.le_trans (Nat.le_add_right _ _) hj.1) o_1 (by decide) (z0h fun a => zkp) (by decide)
   rcases o_1 with ⟨e', _⟩ | ⟨k, cs, rfl, hS, _⟩
   ·exact absurd e' (o_3 h0)
   ·have hkn : ¬ k < nx := by have := hS.1; omega
    simp only [List.length_map] at hs
    simp [z6v, outV, V.under, hkn, hs]
end Go.Lift.K
namespace Go.Lift.K
open Go Go.Lift
set_option maxRecDepth 100000
def y2s (s0 : List (Nat × Obj)) (n0 : Nat) (a b : TreeT) (v : V) (st : St) : Prop :=
 n0 ≤ st.next ∧ (∀ q, q < n0 → sget st.s q = sget s0 q) ∧
  ((z0p z0c [a, b] = 0 ∧ ∃ kd, v = .tup [.ptr kd 0, .d (.int .i64 0)] ∧ n0 ≤ kd ∧ kd < st.next ∧ sget st.s kd = some (.cells (z9i a b))) ∨ (z0p z0c [a, b] ≠ 0 ∧ v = .tup [.nilP, .d (.int .i64 (z0p z0c [a, b]))]))
theorem zox {a b : TreeT} (ha : a.ok) (hb : b.ok) {s : List (Nat × Obj)} {n0 lw : Nat} : PostV (z05 G (.fn 102 [] []) [.d a.d, .d b.d] { s := s, next := n0, low := lw }) (y2s s n0 a b) := by
 have hC : ∀ s nx lw k, sget s k = some (.cells [.d (.sl (a.nodes.map NodeT.d)), .d (.int .i64 a.root), .d (.sl (b.nodes.map NodeT.d)), .d (.int .i64 b.root)]) → z05 G (.fn 125 [] []) [.arr k 2 true 0 2] { s := s, next := nx, low := lw } = some (.d (.int .i64 (z0p z0c [a, b])), { s := s, next := nx, low := lw }) := fun s nx lw k h => by
  have := zdg (l := [a, b]) (by simp [LOk]) (fun x hx => by simp at hx; rcases hx with rfl | rfl <;> assumption) { s := [], next := 0, low := 0 }
  exact z3b (ds := [.sl ([a, b].map TreeT.d)]) (rs := [.int .i64 (z0p z0c [a, b])]) T1.g125 rfl rfl (by have := zcm (l := [a, b]) (s := s) (k := k) (by rw [h]; rfl); simp only [List.length_cons, List.length_nil, Nat.zero_add] at this; simp [z0o, this]) rfl this
 have hbx : ∀ k st, boxV k (mkAgg [.d (.sl (a.nodes.map NodeT.d)), .d (.int .i64 a.root), .d (.sl (b.nodes.map NodeT.d)), .d (.int .i64 b.root), .fn 129 [] []]) st = some (.ptr k 0, St.ins st k (.cells (z9i a b))) := fun k st => by
  simp only [boxV, zh1]; rfl
 refine z73 (first := []) (args := [.d a.d, .d b.d]) (cap := []) T1.g102 rfl rfl rfl (fun e w_len harg => ?_)
 have w_len : e.length = 19 := w_len
 have w_0 : e.getD 0 .undef = .d a.d := harg 0 (by simp)
 have w_1 : e.getD 1 .undef = .d b.d := harg 1 (by simp)
 clear harg
 by_cases h0 : z0p z0c [a, b] = 0
 ·simp only [T1.i102, TreeT.d, hC, hbx, h0, w_len, w_0, w_1, ↓LA, LB, simprocAttr]
  exact ⟨by show n0 ≤ n0 + 18; omega, (by intro q hq; simp (disch := omega) only [z00]), .inl ⟨h0, _, rfl, by omega, by show n0 + 15 < n0 + 18; omega, z01⟩⟩
 ·simp only [T1.i102, TreeT.d, hC, h0, w_len, w_0, w_1, ↓LA, LB, simprocAttr]
  exact ⟨Nat.le_add_right _ _, (by intro q hq; simp (disch := omega) only [z00]), .inr ⟨h0, rfl⟩⟩
end Go.Lift.K
namespace Go.Lift.K
open Go Go.Lift
set_option maxRecDepth 100000
def PL (s : List (Nat × Obj)) (lo hi : Nat) (v : V) (l : List D) : Prop := (v = .nilS ∧ l = []) ∨ ∃ k, v = .arr k 1 false 0 l.length ∧ lo ≤ k ∧ k < hi ∧ sget s k = some (.cells (scs l))
theorem PL.frame {s s' : List (Nat × Obj)} {lo hi lo' hi' : Nat} {v : V} {l : List D} (h : PL s lo hi v l) (hs : ∀ k, lo ≤ k → k < hi → sget s' k = sget s k) (h1 : lo' ≤ lo) (h2 : hi ≤ hi') : PL s' lo' hi' v l := by
 refine h.imp id ?_
 rintro ⟨k, e, a, b, g⟩
 exact ⟨k, e, by omega, by omega, by rw [hs k a b]; exact g⟩
theorem PL.app {s : List (Nat × Obj)} {lo hi : Nat} {v : V} {l : List D} (h : PL s lo hi v l) {x : D} (ha : l.all D.sc = true) (hl : l.length ≤ 1000000) {k1 key nx lw : Nat} (hx : x.sc = true) (h1 : sget s k1 = some (.cells [.d x])) :
  ∃ s' lw', z0y { s := s, next := nx, low := lw } key 1 false 8 v (.arr k1 1 false 0 1) = some (.arr key 1 false 0 (l.length + 1), { s := (key, .cells (scs (l ++ [x]))) :: s', next := nx, low := lw' }) ∧ (∀ q, (q < lo ∨ hi ≤ q) → sget s' q = sget s q) ∧ Nat.min lw lo ≤ lw' := by
 obtain ⟨rfl, rfl⟩ | ⟨k, rfl, hk, hk2, hg⟩ := h
 ·refine ⟨s, lw, ?_, fun _ _ => rfl, Nat.min_le_left _ _⟩
  exact zj6 (es := [x]) h1 (by simp [hx]) (by simp) rfl (by simp) (by simp)
 ·refine ⟨sdel s k, Nat.min lw k, ?_, fun q hq => z14 (by omega), by simp only [Nat.min_def]; split <;> split <;> omega⟩
  exact zhi (es := [x]) hg h1 ha (by simp [hx]) rfl rfl (by simp; omega) (by simp; omega)
theorem zrr {l : List D} (ha : l.all D.sc = true) (hl : l.length ≤ 1000000) {v : V} {s : List (Nat × Obj)} {nx lw lo : Nat} (hv : PL s lo nx v l) :
  PostV (z05 G (.fn 162 [] []) [v] { s := s, next := nx, low := lw }) (fun r st => nx ≤ st.next ∧ (∀ q, q < nx → sget st.s q = sget s q) ∧ PL st.s nx st.next r l ∧ ∀ m, m ≤ lw → m ≤ nx → m ≤ st.low) := by
 obtain ⟨rfl, rfl⟩ | ⟨k, rfl, hk, hk2, hg⟩ := hv
 ·refine ziz (args := [.nilS]) T1.g162 rfl rfl rfl (fun e w_len harg => ?_)
  have w_len : e.length = 8 := w_len
  have w_0 : e.getD 0 .undef = .nilS := harg 0 (by simp)
  clear harg
  simp only [T1.i162, w_len, w_0, ↓LA, LB, simprocAttr]
  exact ⟨Nat.le_add_right _ _, (by intro q hq; trivial), .inl ⟨rfl, rfl⟩, fun m h1 h2 => z03 h1 (by show m ≤ nx; omega)⟩
 ·have hA : ∀ z nx' lw', sget z k = some (.cells (scs l)) → sget z (nx + 3) = some (.cells []) → z0y { s := z, next := nx', low := lw' } (nx + 5) 1 false 8 (.arr (nx + 3) 1 false 0 0) (.arr k 1 false 0 l.length) = _ := fun z nx' lw' h h0 => zjc ha hl (.inr ⟨k, rfl, h⟩) h0
  have hne : (nx + 3 = k) = False := by simp; omega
  refine ziz (args := [.arr k 1 false 0 l.length]) T1.g162 rfl rfl rfl (fun e w_len harg => ?_)
  have w_len : e.length = 8 := w_len
  have w_0 : e.getD 0 .undef = .arr k 1 false 0 l.length := harg 0 (by simp)
  clear harg
  simp only [T1.i162, hA, hne, hg, w_len, w_0, ↓LA, LB, simprocAttr]
  exact ⟨Nat.le_add_right _ _, (by intro q hq; simp (disch := omega) only [z14 (show nx + 3 ≠ q by omega), if_neg]), .inr ⟨_, rfl, by omega, by show nx + 5 < nx + _; omega, z01⟩, fun m h1 h2 => by repeat' (first | omega | refine z03 ?_ ?_)⟩
end Go.Lift.K
namespace Go.Lift.K
open Go Go.Lift
set_option maxRecDepth 100000
theorem zx7 {k : Nat} {args : List V} {st : St} {env env1 : List V} {ps : List Nat} {asg body : IC} {R : V → St → Prop} {A : List V → St → Prop}
  (h0 : sget st.s k = some (.loop env ps asg body .ready none)) (h1 : zal env ps args = some env1)
  (h : PC (z0m (z05 T1.G) z0r (some k) asg env1 st) (fun x env2 st2 => x = .nrm ∧ A env2 st2) .mk)
  (h2 : ∀ env2 st2, A env2 st2 → sget st2.s k = some (.loop env ps asg body .ready none) ∧ PC (z0m (z05 T1.G) z0r (some k) body env2 (st2.set k (.loop env ps asg body .busy none))) (fun x _ st3 => zx3 k R x st3) .mk) :
  PostV (z05 T1.G (.yld k) args st) R := by
 refine zzh h0 h1 ?_
 obtain ⟨x, env2, st2, hx, rfl, hA⟩ := h
 obtain ⟨g1, g2⟩ := h2 _ _ hA
 exact ⟨_, _, _, hx, rfl, _, _, _, g1, g2⟩
theorem zlk {a b : TreeT} (ha : a.ok) (hb : b.ok) {kd : Nat} {s : List (Nat × Obj)} {nx lw : Nat} (hkd : kd < nx) (hk : sget s kd = some (.cells (z9i a b))) {p : Nat × Nat} (h1 : p.1 < a.nodes.length) (h2 : p.2 < b.nodes.length) :
  z05 T1.G (.fn 130 [.ptr kd 0] []) [.d (prD p)] { s := s, next := nx, low := lw } = some (.d (.bool (difS a.nodes[p.1] b.nodes[p.2])), { s := s, next := nx, low := lw }) := by
 have h := zfj ha hb hkd hk h1 h2 (lw := lw) (nx := nx)
 rw [z1z] at h ⊢; simp only [z15] at h ⊢
 exact h
def yAsg : IC := (sq 2 [oo 6 (.alloc 0 [(.d (.int .i64 0)), (.d (.int .i64 0))]), os (ks 2 6 12)]
 (.reg 1 [om 7 13]))
def zle : IC := (.block 1 (sq 3 [oo 14 (kl 1 5), oo 15 (kL 2 6), oo 16 (.call (.o (.t 14)) [.t 15])]
 (.cond (.t 16) (sq 5 [om 17 7, oo 18 (kL 2 6), ⟨none, ks 1 2 17, none, [6]⟩, os (ks 2 3 18), os (.store 1 (.t 4) ct)]
 (.exit 0))
 .skip)))
structure Ye (na kd : Nat) (env : List V) : Prop where
 len : env.length = 22
 a2 : env.getD 2 .undef = .ptr na 0
 a3 : env.getD 3 .undef = .ptr (na + 1) 0
 a4 : env.getD 4 .undef = .ptr (na + 2) 0
 a5 : env.getD 5 .undef = .ptr (na + 5) 0
structure Ys (a b : TreeT) (na kd k : Nat) (env : List V) (s : List (Nat × Obj)) : Prop where
 lp : sget s k = some (.loop env [12, 13] yAsg zle .ready none)
 dk : sget s kd = some (.cells (z9i a b))
 un : sget s (na + 5) = some (.cells [.fn 130 [.ptr kd 0] []])
 p0 : sget s na = some (.cells [.nilS])
 p1 : sget s (na + 1) = some (.cells [.d (.int .i64 0), .d (.int .i64 0)])
 p2 : sget s (na + 2) = some (.cells [.d (.bool false)])
theorem Ys.frame {a b : TreeT} {na kd k : Nat} {env : List V} {s s' : List (Nat × Obj)} (h : Ys a b na kd k env s) (hs : ∀ q, q ≤ k → sget s' q = sget s q) (h1 : na + 5 < k) (h2 : kd < na) : Ys a b na kd k env s' := ⟨(hs _ (by omega)).trans h.lp, (hs _ (by omega)).trans h.dk, (hs _ (by omega)).trans h.un, (hs _ (by omega)).trans h.p0, (hs _ (by omega)).trans h.p1, (hs _ (by omega)).trans h.p2⟩
structure Yf (na k : Nat) (env : List V) (x : Nat × Nat) (v : V) (s : List (Nat × Obj)) : Prop where
 lp : sget s k = some (.loop env [12, 13] yAsg zle .done (some (.brk 0)))
 p0 : sget s na = some (.cells [v])
 p1 : sget s (na + 1) = some (.cells [.d (.int .i64 (x.1 : Nat)), .d (.int .i64 (x.2 : Nat))])
 p2 : sget s (na + 2) = some (.cells [.d (.bool true)])
def YR (a b : TreeT) (na k : Nat) (env : List V) (s : List (Nat × Obj)) (nx : Nat) (p : Nat × Nat) (d : Bool) (v : V) (r : V) (st : St) : Prop :=
 nx ≤ st.next ∧ na ≤ st.low ∧ ((d = false ∧ r = .d (.bool true) ∧ ∀ q, q < nx → sget st.s q = sget s q) ∨
  (d = true ∧ r = .d (.bool false) ∧ Yf na k env p v st.s ∧ ∀ q, q < nx → q ≠ k → (q < na ∨ na + 3 ≤ q) → sget st.s q = sget s q))
set_option maxHeartbeats 1000000 in
theorem zsn {a b : TreeT} (ha : a.ok) (hb : b.ok) {na kd k : Nat} {env : List V} {s : List (Nat × Obj)} {nx lw : Nat} (he : Ye na kd env) (hs : Ys a b na kd k env s) (hk : k < nx) (hna : na + 5 < k) (hkd : kd < na) (hlw : na ≤ lw)
  {p : Nat × Nat} (h1 : p.1 < a.nodes.length) (h2 : p.2 < b.nodes.length) {v : V} (hv : v.isCell = true ∧ cellsV v = [v]) :
  PostV (z05 T1.G (.yld k) [.d (prD p), v] { s := s, next := nx, low := lw }) (YR a b na k env s nx p (difS a.nodes[p.1] b.nodes[p.2]) v) := by
 obtain ⟨w_len, w_2, w_3, w_4, w_5⟩ := he
 obtain ⟨w_lp, w_dk, w_un, w_p0, w_p1, w_p2⟩ := hs
 obtain ⟨hv1, hv2⟩ := hv
 refine zx7 (A := fun env2 st2 => ∃ nx' lw', st2 = { s := (nx, .cells [.d (.int .i64 (p.1 : Nat)), .d (.int .i64 (p.2 : Nat))]) :: s, next := nx', low := lw' } ∧ nx + 2 ≤ nx' ∧ na ≤ lw' ∧ env2.length = 22 ∧ env2.getD 2 .undef = .ptr na 0 ∧ env2.getD 3 .undef = .ptr (na + 1) 0 ∧ env2.getD 4 .undef = .ptr (na + 2) 0 ∧ env2.getD 5 .undef = .ptr (na + 5) 0 ∧ env2.getD 6 .undef = .ptr nx 0 ∧ env2.getD 7 .undef = v) w_lp rfl ?_ ?_
 ·have w_x0 := hna
  simp only [yAsg, prD, w_len, w_2, w_3, w_4, w_5, ↓LA, LB, simprocAttr]
  exact ⟨_, _, rfl, by show nx + 2 ≤ nx + 3; omega, by repeat' (first | omega | refine z03 ?_ ?_)⟩
 ·rintro env2 st2 ⟨nx', lw', rfl, hn, hln, w_len, w_2, w_3, w_4, w_5, w_6, w_7⟩
  refine ⟨by rw [z00 (by omega)]; exact w_lp, ?_⟩
  have w_n0 : (nx = k) = False ∧ (k = nx) = False ∧ (k = na) = False ∧ (k = na + 1) = False ∧ (k = na + 2) = False ∧ (k = na + 5) = False ∧ (k = kd) = False ∧ (nx = na) = False ∧ (nx = na + 1) = False ∧ (nx = na + 2) = False ∧ (nx = na + 5) = False ∧ (nx = kd) = False := by simp; omega
  have hU : ∀ z nx1 lw1, sget z kd = some (.cells (z9i a b)) → kd < nx1 → z05 T1.G (.fn 130 [.ptr kd 0] []) [.d (.agg [.int .i64 (p.1 : Nat), .int .i64 (p.2 : Nat)])] { s := z, next := nx1, low := lw1 } = some (.d (.bool (difS a.nodes[p.1] b.nodes[p.2])), { s := z, next := nx1, low := lw1 }) := fun z nx1 lw1 hz hn1 => zlk ha hb hn1 hz h1 h2
  generalize hO : Obj.loop env [12, 13] yAsg zle .busy none = O
  have w_kk : ∀ o, sget (sset s k o) k = some o := fun o => z0v w_lp
  have w_dk2 : ∀ o, sget (sset s k o) kd = some (.cells (z9i a b)) := fun o => by rw [z0q (by omega)]; exact w_dk
  simp only [zle, w_len, w_5, w_6, w_n0, w_un, ↓LA, LB, simprocAttr]
  rw [hU _ _ _ (by rw [z00 (by omega)]; exact w_dk2 _) (by omega)]
  cases hd : difS a.nodes[p.1] b.nodes[p.2] with
  | true =>
   simp only [hv1, hv2, w_len, w_2, w_3, w_4, w_6, w_7, w_n0, w_p0, w_p1, w_p2, ↓LA, LB, simprocAttr]
   obtain ⟨X, hX⟩ : ∃ X, X = (nx, Obj.cells [V.d (D.int IntKind.i64 (p.fst : Nat)), V.d (D.int IntKind.i64 (p.snd : Nat))]) :: sset (sset (sset (sset s k O) na (Obj.cells [v])) (na + 1) (Obj.cells [V.d (D.int IntKind.i64 (p.fst : Nat)), V.d (D.int IntKind.i64 (p.snd : Nat))])) (na + 2) (Obj.cells [V.d (D.bool true)]) := ⟨_, rfl⟩
   rw [← hX]
   have x0 : ∀ q, q < nx → q ≠ k → (q < na ∨ na + 3 ≤ q) → sget X q = sget s q := fun q g1 g2 g3 => by rw [hX]; simp (disch := omega) only [z00, z04]
   have x1 : sget X k = some O := by rw [hX]; simp (disch := omega) only [z00, z04]; exact w_kk O
   have x2 : sget X na = some (.cells [v]) := by
    rw [hX]; simp (disch := omega) only [z00, z04]
    exact z0v (by simp (disch := omega) only [z04]; exact w_p0)
   have x3 : sget X (na + 1) = some (.cells [.d (.int .i64 (p.1 : Nat)), .d (.int .i64 (p.2 : Nat))]) := by
    rw [hX]; simp (disch := omega) only [z00, z04]
    exact z0v (by simp (disch := omega) only [z04]; exact w_p1)
   have x4 : sget X (na + 2) = some (.cells [.d (.bool true)]) := by
    rw [hX]; simp (disch := omega) only [z00]
    exact z0v (by simp (disch := omega) only [z04]; exact w_p2)
   refine ⟨env, [12, 13], yAsg, zle, by rw [hO]; exact x1, by show nx ≤ nx' + 8; omega, (by show na ≤ Nat.min _ _; repeat' (first | omega | refine z03 ?_ ?_)), .inr ⟨rfl, rfl, ⟨z0v x1, ?_, ?_, ?_⟩, fun q g1 g2 g3 => ?_⟩⟩
   ·exact (z0q (by omega)).trans x2
   ·exact (z0q (by omega)).trans x3
   ·exact (z0q (by omega)).trans x4
   ·exact (z0q (by omega)).trans (x0 q g1 g2 g3)
  | false =>
   simp only [w_len, ↓LA, LB, simprocAttr]
   obtain ⟨X, hX⟩ : ∃ X, X = (nx, Obj.cells [V.d (D.int IntKind.i64 (p.fst : Nat)), V.d (D.int IntKind.i64 (p.snd : Nat))]) :: sset s k O := ⟨_, rfl⟩
   rw [← hX]
   have x0 : ∀ q, q < nx → q ≠ k → sget X q = sget s q := fun q g1 g2 => by rw [hX]; simp (disch := omega) only [z00, z04]
   have x1 : sget X k = some O := by rw [hX]; simp (disch := omega) only [z00]; exact w_kk O
   refine ⟨env, [12, 13], yAsg, zle, by rw [hO]; exact x1, by show nx ≤ nx' + 3; omega, (by show na ≤ Nat.min _ _; repeat' (first | omega | refine z03 ?_ ?_)), .inl ⟨rfl, rfl, fun q g1 => ?_⟩⟩
   by_cases e : q = k
   ·subst e; exact (z0v x1).trans w_lp.symm
   ·exact (z0q (by omega)).trans (x0 q g1 e)
end Go.Lift.K
