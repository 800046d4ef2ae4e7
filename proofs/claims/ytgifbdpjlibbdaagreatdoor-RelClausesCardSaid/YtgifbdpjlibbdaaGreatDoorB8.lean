/- Part B8 of the proof. -/
import Derived.Test.YtgifbdpjlibbdaaGreatDoorB6
import Derived.Test.YtgifbdpjlibbdaaGreatDoorA7
import Derived.Test.YtgifbdpjlibbdaaGreatDoorB5
set_option linter.all false
namespace Go.Lift.K
open Go Go.Lift
set_option maxRecDepth 100000
theorem zld : ∀ {ds : List D}, V.beqL (ds.map V.d) (ds.map V.d) = true
 | [] => z92
 | x :: ds => by rw [List.map_cons, z7f, zld, zfg, D.beq_refl]; rfl
theorem znj {s : List (Nat × Obj)} {u v w : V} {a b c : D} (h1 : snap s 0 z07 u = some a) (h2 : snap s 0 z07 v = some b) (h3 : snap s 0 z07 w = some c) : z0o s 0 [u, v, w] = some [a, b, c] := by
 simp [z0o, h1, h2, h3]
def y1u (A B : List NodeT) (x y : Nat) (rs : List D) : Prop := ∃ (o : D) (n : Int) (c : D), rs = [o, .int .i64 n, c] ∧ (n < 0 ↔ bis A B x y)
set_option maxHeartbeats 8000000 in
theorem zx8 {a b : TreeT} (ha : Gd a.nodes) (hb : Gd b.nodes) (hao : a.ok) (hbo : b.ok) {x y : Nat} (hx : x < a.nodes.length) (hy : y < b.nodes.length) :
  ∃ rs, y1u a.nodes b.nodes x y rs ∧ ∀ st, z05 G (.fn 144 [] []) ([a.d, b.d, .int .i64 (x : Nat), .int .i64 (y : Nat)].map V.d) st = some (tupV (rs.map V.d), st) := by
 have hal := ha.len
 have hbl := hb.len
 have hmul : a.nodes.length * b.nodes.length ≤ 3600 := Nat.mul_le_mul hal hbl
 refine ztb (ds := [a.d, b.d, .int .i64 (x : Nat), .int .i64 (y : Nat)]) (P := y1u a.nodes b.nodes x y) T1.g144 rfl rfl (fun e w_len harg => ?_)
 have w_len : e.length = 102 := w_len
 have w_0 := harg 0 (by simp)
 have w_1 := harg 1 (by simp)
 have w_2 := harg 2 (by simp)
 have w_3 := harg 3 (by simp)
 clear harg
 simp only [List.map_cons, List.map_nil, List.getD_cons_zero, List.getD_cons_succ] at w_0 w_1 w_2 w_3
 simp only [T1.i144, TreeT.d, w_len, w_0, w_1, w_2, w_3, ↓LA, LB, simprocAttr]
 have w_x1 : prs [(x, y)] = [.d (.int .i64 (x : Nat)), .d (.int .i64 (y : Nat))] := rfl
 refine z09 (fun e0 s0 m env st => ∃ (i nxi lwi : Nat) (si : List (Nat × Obj)) (ko kq : Nat) (o : List (Nat × Nat)) (cs : List V), m = 3601 - i ∧ (i ≤ 3601) ∧ (ko < nxi) ∧ (kq < nxi) ∧ (2 ≤ ko) ∧ (2 ≤ kq) ∧ (ko ≠ kq) ∧ (Wi a.nodes b.nodes x y o) ∧ (cs.length = o.length) ∧ (∀ v ∈ cs, PI si ko kq nxi o.length v) ∧ (∀ j (h : j < o.length), j < i → Wd a.nodes b.nodes o o[j]) ∧ sget si (0) = some (.cells [.d (.sl (a.nodes.map NodeT.d)), .d (.int .i64 a.root)]) ∧ sget si (1) = some (.cells [.d (.sl (b.nodes.map NodeT.d)), .d (.int .i64 b.root)]) ∧ sget si (ko) = some (.cells (prs o)) ∧ sget si (kq) = some (.cells cs) ∧ 2 ≤ nxi ∧ 0 ≤ lwi ∧ env.length = 102 ∧ env.getD 13 .undef = .d (.int .i64 i) ∧ env.getD 4 .undef = .ptr 0 0 ∧ env.getD 5 .undef = .ptr 1 0 ∧ env.getD 11 .undef = .arr ko 2 true 0 o.length ∧ env.getD 12 .undef = .arr kq 1 false 0 o.length ∧ st = { s := si, next := nxi, low := lwi }) ?_ (3601) (by refine ⟨0, _, _, _, 8, 10, [(x, y)], [.nilS], rfl, by omega, by omega, by omega, by omega, by omega, by omega, ⟨by simp, by simpa using ⟨hx, hy⟩, by simp, fun h p hp => by rw [List.mem_singleton] at hp; subst hp; exact h⟩, rfl, (by intro v hv; rw [List.mem_singleton] at hv; subst hv; exact ⟨[], rfl, Nat.zero_le _, .inl ⟨rfl, rfl⟩⟩), fun j h h' => by omega, ?_, ?_, ?_, ?_, (by omega), Nat.zero_le _, ?_, ?_, ?_, ?_, ?_, ?_, rfl⟩ <;> simp only [w_len, w_x1, LB, simprocAttr])
 rintro m env st ⟨i, nxi, lwi, si, ko, kq, o, cs, hm, a_0, a_1, a_2, a_3, a_4, a_5, a_6, a_7, a_8, a_9, w_ac0, w_ac1, w_ac2, w_ac3, w_ab, w_alo, w_len, w_13, w_4, w_5, w_11, w_12, rfl⟩
 have w_aN := And.intro (cf1 (x := nxi) (a := 0) (by omega)) (And.intro (cf1 (x := nxi) (a := 1) (by omega)) (And.intro (cf1 (x := nxi) (a := ko) (by omega)) (cf1 (x := nxi) (a := kq) (by omega))))
 have w_aS := And.intro (cf2 (x := nxi) (by omega) w_ac0) (And.intro (cf2 (x := nxi) (by omega) w_ac1) (And.intro (cf2 (x := nxi) (by omega) w_ac2) (cf2 (x := nxi) (by omega) w_ac3)))
 have w_aZ := zf0 (x := nxi) (n := 2) (by omega)
 have hol := a_6.len
 by_cases hi : i < o.length
 ·have hpm := List.getElem_mem hi
  obtain ⟨hp1, hp2⟩ := a_6.lt _ hpm
  have hpr := zzv hi
  have hcb : V.beqL (prs o) (prs o) = true := zld
  have hn1 : a.nodes[o[i].1].ok := hao.1.2 _ (List.getElem_mem hp1)
  have hn2 : b.nodes[o[i].2].ok := hbo.1.2 _ (List.getElem_mem hp2)
  have hD := fun st => zgx hn1 hn2 st
  simp only [NodeT.d] at hD
  have hcs := a_8
  have hie : i < cs.length := by rw [a_7]; exact hi
  have hat := zku hie
  have hpi := a_8 _ (List.getElem_mem hie)
  cases hd : difS a.nodes[o[i].1] b.nodes[o[i].2] with
  | true =>
   simp only [hi, z78 hi, z3f hi, iaP0, iaP1, hpr, z0j hp1, z0j hp2, hcb, hD, hd, hat, w_len, w_13, w_4, w_5, w_11, w_12, w_ac0, w_ac1, w_ac2, w_ac3, w_aN, ↓LA, LB, simprocAttr]
   have hfr := hpi.frame (ko' := ko) (kq' := kq) (nx' := nxi) (n' := o.length) (fun k h1 h2 h3 => show sget ((nxi + 23, Obj.cells [V.d (D.str b.nodes[o[i].snd].name), V.d (D.sl (List.map (D.int IntKind.i64) b.nodes[o[i].snd].kids))]) :: (nxi + 22, Obj.cells [V.d (D.str a.nodes[o[i].fst].name), V.d (D.sl (List.map (D.int IntKind.i64) a.nodes[o[i].fst].kids))]) :: si) k = sget si k by simp (disch := omega) only [z00]) (.inl rfl) (.inl rfl) (Nat.le_refl _) (Nat.le_refl _)
   obtain ⟨d, hsd⟩ := hfr.snap
   refine ⟨_, rfl, [.sl (o.map prD), .int .i64 i, d], ?_, _, _, _, rfl, ?_⟩
   ·exact znj (ze0 (by rw [z00 (by omega), z00 (by omega)]; exact w_ac2)) z3y hsd
   ·exact ⟨fun h => by omega, fun h => absurd h (zvj a_6 hpm (by rw [z1w hp1, z1w hp2]; exact hd))⟩
  | false =>
   have hd' : difS (nd a.nodes o[i].1) (nd b.nodes o[i].2) = false := by rw [z1w hp1, z1w hp2]; exact hd
   obtain ⟨hdn, hdk⟩ := z62.1 hd
   have hkl := ha.kids _ hp1
   rw [z1w hp1] at hkl
   simp only [hi, z78 hi, iaP0, iaP1, hpr, z0j hp1, z0j hp2, hcb, hD, hd, w_len, w_13, w_4, w_5, w_11, w_ac0, w_ac1, w_ac2, w_aN, ↓LA, LB, simprocAttr]
   have hpf := fun v hv => (a_8 v hv).frame (s' := (nxi + 23, Obj.cells [V.d (D.str b.nodes[o[i].snd].name), V.d (D.sl (List.map (D.int IntKind.i64) b.nodes[o[i].snd].kids))]) :: (nxi + 22, Obj.cells [V.d (D.str a.nodes[o[i].fst].name), V.d (D.sl (List.map (D.int IntKind.i64) a.nodes[o[i].fst].kids))]) :: si) (ko' := ko) (kq' := kq) (nx' := nxi) (n' := o.length) (fun k h1 h2 h3 => by simp (disch := omega) only [z00]) (.inl rfl) (.inl rfl) (Nat.le_refl _) (Nat.le_refl _)
   refine z09 (fun e0 s0 m env st => ∃ (k nxk lwk : Nat) (sk : List (Nat × Obj)) (kp kr : Nat) (p : List (Nat × Nat)) (ds : List V), m = a.nodes[o[i].1].kids.length - k ∧ (k ≤ a.nodes[o[i].1].kids.length) ∧ (kp < nxk) ∧ (kr < nxk) ∧ (2 ≤ kp) ∧ (2 ≤ kr) ∧ (kp ≠ kr) ∧ ((kp < nxi ∨ nxi + 24 ≤ kp) ∧ (kr < nxi ∨ nxi + 24 ≤ kr)) ∧ (Wi a.nodes b.nodes x y p) ∧ (ds.length = p.length) ∧ (∀ v ∈ ds, PI sk kp kr nxk p.length v) ∧ (∃ m, p = o ++ m) ∧ (∀ j, j < k → (kid a.nodes o[i].1 j, kid b.nodes o[i].2 j) ∈ p) ∧ sget sk (0) = some (.cells [.d (.sl (a.nodes.map NodeT.d)), .d (.int .i64 a.root)]) ∧ sget sk (1) = some (.cells [.d (.sl (b.nodes.map NodeT.d)), .d (.int .i64 b.root)]) ∧ sget sk (kp) = some (.cells (prs p)) ∧ sget sk (kr) = some (.cells ds) ∧ sget sk (nxi + 22) = some (.cells [.d (.str a.nodes[o[i].1].name), .d (.sl (a.nodes[o[i].1].kids.map (D.int .i64)))]) ∧ sget sk (nxi + 23) = some (.cells [.d (.str b.nodes[o[i].2].name), .d (.sl (b.nodes[o[i].2].kids.map (D.int .i64)))]) ∧ nxi + 24 ≤ nxk ∧ 0 ≤ lwk ∧ env.length = 102 ∧ env.getD 16 .undef = .d (.int .i64 k) ∧ env.getD 4 .undef = .ptr 0 0 ∧ env.getD 5 .undef = .ptr 1 0 ∧ env.getD 11 .undef = .arr kp 2 true 0 p.length ∧ env.getD 12 .undef = .arr kr 1 false 0 p.length ∧ env.getD 13 .undef = .d (.int .i64 i) ∧ env.getD 14 .undef = .ptr (nxi + 22) 0 ∧ env.getD 15 .undef = .ptr (nxi + 23) 0 ∧ st = { s := sk, next := nxk, low := lwk }) ?_ (a.nodes[o[i].1].kids.length) (by refine ⟨0, _, _, _, ko, kq, o, cs, rfl, by omega, by omega, by omega, by omega, by omega, a_5, by omega, a_6, a_7, (fun v hv => (hpf v hv).frame (fun _ _ _ _ => rfl) (.inl rfl) (.inl rfl) (by omega) (Nat.le_refl _)), ⟨[], by simp⟩, fun j h => by omega, ?_, ?_, ?_, ?_, ?_, ?_, (by omega), Nat.zero_le _, ?_, ?_, ?_, ?_, ?_, ?_, ?_, ?_, ?_, rfl⟩ <;> simp only [w_len, w_13, w_4, w_5, w_11, w_12, w_ac0, w_ac1, w_ac2, w_ac3, w_aN, LB, simprocAttr])
   rintro m env st ⟨k, nxk, lwk, sk, kp, kr, p, ds, hm, b_0, b_1, b_2, b_3, b_4, b_5, b_6, b_7, b_8, b_9, b_10, b_11, w_bc0, w_bc1, w_bc2, w_bc3, w_bc4, w_bc5, w_bb, w_blo, w_len, w_16, w_4, w_5, w_11, w_12, w_13, w_14, w_15, rfl⟩
   have w_bN := And.intro (cf1 (x := nxk) (a := 0) (by omega)) (And.intro (cf1 (x := nxk) (a := 1) (by omega)) (And.intro (cf1 (x := nxk) (a := kp) (by omega)) (And.intro (cf1 (x := nxk) (a := kr) (by omega)) (And.intro (cf1 (x := nxk) (a := nxi + 22) (by omega)) (cf1 (x := nxk) (a := nxi + 23) (by omega))))))
   have w_bS := And.intro (cf2 (x := nxk) (by omega) w_bc0) (And.intro (cf2 (x := nxk) (by omega) w_bc1) (And.intro (cf2 (x := nxk) (by omega) w_bc2) (And.intro (cf2 (x := nxk) (by omega) w_bc3) (And.intro (cf2 (x := nxk) (by omega) w_bc4) (cf2 (x := nxk) (by omega) w_bc5)))))
   have w_bZ := And.intro (zf (x := nxk) (b := nxi) (n := 24) (by omega) (by omega)) (zf0 (x := nxk) (n := 2) (by omega))
   obtain ⟨m', hm'⟩ := b_10
   have hpl := b_7.len
   have hip : i < p.length := by rw [hm', List.length_append]; omega
   have hpi2 : p[i] = o[i] := by simp only [hm']; exact List.getElem_append_left hi
   by_cases hk : k < a.nodes[o[i].1].kids.length
   ·have hk2 : k < b.nodes[o[i].2].kids.length := by rw [← hdk]; exact hk
    obtain ⟨hke1, hkn1⟩ := ha.at_ hp1 hk
    obtain ⟨hke2, hkn2⟩ := hb.at_ hp2 hk2
    have hM : ∀ nx lw, z05 G (.fn 169 [] []) [.arr kp 2 true 0 p.length, .d (.int .i64 (kid a.nodes o[i].1 k : Nat)), .d (.int .i64 (kid b.nodes o[i].2 k : Nat))] { s := sk, next := nx, low := lw } = some (.d (.bool (decide ((kid a.nodes o[i].1 k, kid b.nodes o[i].2 k) ∈ p))), { s := sk, next := nx, low := lw }) := fun nx lw =>
     z3b (ds := [.sl (p.map prD), .int .i64 (kid a.nodes o[i].1 k : Nat), .int .i64 (kid b.nodes o[i].2 k : Nat)]) (rs := [.bool (decide ((kid a.nodes o[i].1 k, kid b.nodes o[i].2 k) ∈ p))]) T1.g169 rfl rfl (by simp [z0o, ze0 w_bc2, z3y]) rfl (y0g (by omega) _)
    by_cases hin : (kid a.nodes o[i].1 k, kid b.nodes o[i].2 k) ∈ p
    ·simp only [hk, z1a hk, z1a hk2, hke1, hke2, hM, hin, List.length_map, z02 hk (by omega), w_len, w_16, w_11, w_14, w_15, w_bc4, w_bc5, ↓LA, LB, simprocAttr]
     exact z08 (by refine ⟨_, by omega, k + 1, _, _, _, kp, kr, p, ds, rfl, by omega, by omega, by omega, by omega, by omega, b_5, b_6, b_7, b_8, (fun v hv => (b_9 v hv).frame (fun _ _ _ _ => rfl) (.inl rfl) (.inl rfl) (by omega) (Nat.le_refl _)), ⟨m', hm'⟩, (fun j hj => if e : j = k then e ▸ hin else b_11 j (by omega)), ?_, ?_, ?_, ?_, ?_, ?_, (by omega), Nat.zero_le _, ?_, ?_, ?_, ?_, ?_, ?_, ?_, ?_, ?_, rfl⟩ <;> simp only [w_len, w_4, w_5, w_11, w_12, w_13, w_14, w_15, w_bc0, w_bc1, w_bc2, w_bc3, w_bc4, w_bc5, LB, simprocAttr])
    ·have w_sd : ∀ s j, (kp = j) = False → sget (sdel s kp) j = sget s j := fun s j h => z8d h
     have w_sr : ∀ s j, (kr = j) = False → sget (sdel s kr) j = sget s j := fun s j h => z8d h
     have w_st : ∀ s n j, (nxk + n = j) = False → sget (sdel s (nxk + n)) j = sget s j := fun s n j h => z8d h
     have w_k0 : (kp = 0) = False ∧ (kp = 1) = False ∧ (kp = kr) = False ∧ (kp = nxi + 22) = False ∧ (kp = nxi + 23) = False ∧ (kr = 0) = False ∧ (kr = 1) = False ∧ (kr = kp) = False ∧ (kr = nxi + 22) = False ∧ (kr = nxi + 23) = False := by simp; omega
     have hid : i < ds.length := by omega
     have hat2 := zku hid
     obtain ⟨l, hl1, hl2, hl3⟩ := b_9 _ (List.getElem_mem hid)
     simp only [hk, z1a hk, z1a hk2, hke1, hke2, hM, hin, List.length_map, w_len, w_16, w_11, w_14, w_15, w_bc4, w_bc5, ↓LA, LB, simprocAttr]
     rw [zh0 (n := p.length) (m := 1) (cs := prs p) (ds := [.d (.int .i64 (kid a.nodes o[i].1 k : Nat)), .d (.int .i64 (kid b.nodes o[i].2 k : Nat))]) (by rw [z00 (by omega)]; exact w_bc2) z01 ze1 rfl rfl (by omega) (by omega), ← zte (p := (kid a.nodes o[i].1 k, kid b.nodes o[i].2 k))]
     simp only [z3f hip, hat2, w_len, w_12, w_13, w_bc3, w_bN, w_sd, w_k0, ↓LA, LB, simprocAttr]
     rw [zjc hl1 (by omega) (hl3.imp id (fun ⟨q, e1, e2, e3, e4, e5⟩ => ⟨q, e1, by simp (disch := omega) only [z00, z14]; exact e5⟩)) z01]
     simp only [w_len, w_16, ↓LA, LB, simprocAttr]
     rw [zhi (n := l.length) (m := 1) (ds := l) (es := [.int .i64 (k : Nat)]) (by rw [z00 (by omega)]; exact z01) (by rw [z01]; rfl) hl1 rfl rfl rfl (by simp; omega) (by simp; omega)]
     simp only [w_len, ↓LA, LB, simprocAttr]
     rw [zh0 (n := p.length) (m := 1) (cs := ds) (ds := [.arr (nxk + 42) 1 false 0 (l.length + 1)]) (by simp (disch := omega) only [z00, z14]; exact w_bc3) z01 (by omega) rfl rfl (by omega) (by omega)]
     simp only [z02 hk (by omega), w_len, w_16, w_bN, ↓LA, LB, simprocAttr]
     have w_pl : p.length + 1 = (p ++ [(kid a.nodes o[i].1 k, kid b.nodes o[i].2 k)]).length := by simp
     have hwi := zvk ha.rt hb.rt b_7 (p := o[i]) (by rw [hm']; exact List.mem_append_left _ hpm) hd' (k := k) (by rw [z1w hp1]; exact hk) hin
     exact z08 (by refine ⟨_, by omega, k + 1, _, _, _, nxk + 31, nxk + 44, p ++ [(kid a.nodes o[i].1 k, kid b.nodes o[i].2 k)], ds ++ [.arr (nxk + 42) 1 false 0 (l.length + 1)], rfl, by omega, by omega, by omega, by omega, by omega, by omega, by omega, hwi, by simp [b_8], (fun v hv => (List.mem_append.1 hv).elim (fun hv => (b_9 v hv).frame (fun q h1 h2 h3 => by simp (disch := omega) only [z00, z14]) (.inr (by omega)) (.inr (by omega)) (by omega) (by simp)) (fun hv => by rw [List.mem_singleton] at hv; subst hv; exact ⟨l ++ [.int .i64 (k : Nat)], by simp [hl1, D.sc], by simp; omega, .inr ⟨nxk + 42, by simp, by omega, by omega, by omega, by simp (disch := omega) only [z00, z01]⟩⟩)), ⟨m' ++ [(kid a.nodes o[i].1 k, kid b.nodes o[i].2 k)], by rw [hm', List.append_assoc]⟩, (fun j hj => (Nat.lt_succ_iff_lt_or_eq.1 hj).elim (fun h => List.mem_append_left _ (b_11 j h)) (fun e => by subst e; simp)), ?_, ?_, ?_, ?_, ?_, ?_, (by omega), Nat.zero_le _, ?_, ?_, ?_, ?_, ?_, ?_, ?_, ?_, ?_, rfl⟩ <;> simp only [w_len, w_4, w_5, w_13, w_14, w_15, w_bc0, w_bc1, w_bc4, w_bc5, w_bN, w_sd, w_sr, w_st, w_k0, w_pl, LB, simprocAttr])
   ·have hkw : Wd a.nodes b.nodes p o[i] := ⟨hd', fun j hj => b_11 j (by rw [z1w hp1] at hj; omega)⟩
    simp only [hk, z02 hi (by omega), w_len, w_16, w_13, w_14, w_bc4, ↓LA, LB, simprocAttr]
    have hwd : ∀ j (h : j < p.length), j < i + 1 → Wd a.nodes b.nodes p p[j] := fun j hj hji => by
     by_cases e : j = i
     ·subst e; rw [hpi2]; exact hkw
     ·have hjo : j < o.length := by omega
      have hpj : p[j] = o[j] := by simp only [hm']; exact List.getElem_append_left hjo
      obtain ⟨g1, g2⟩ := a_9 j hjo (by omega)
      rw [hpj]
      exact ⟨g1, fun q hq => by rw [hm']; exact List.mem_append_left _ (g2 q hq)⟩
    exact z08 (by refine ⟨_, by omega, i + 1, _, _, _, kp, kr, p, ds, rfl, by omega, by omega, by omega, by omega, by omega, b_5, b_7, b_8, (fun v hv => (b_9 v hv).frame (fun _ _ _ _ => rfl) (.inl rfl) (.inl rfl) (by omega) (Nat.le_refl _)), hwd, ?_, ?_, ?_, ?_, (by omega), Nat.zero_le _, ?_, ?_, ?_, ?_, ?_, ?_, rfl⟩ <;> simp only [w_len, w_4, w_5, w_11, w_12, w_bc0, w_bc1, w_bc2, w_bc3, LB, simprocAttr])
 ·simp only [hi, w_len, w_13, w_11, ↓LA, LB, simprocAttr]
  refine ⟨_, rfl, [.sl (o.map prD), .int .i64 (-1), .sl []], ?_, _, _, _, rfl, ?_⟩
  ·exact znj (ze0 w_ac2) z3y (by simp [snap, z07])
  ·exact ⟨fun _ => zvi a_6 (fun p hp => by obtain ⟨j, hj, rfl⟩ := List.mem_iff_getElem.1 hp; exact a_9 j hj (by omega)), fun _ => by omega⟩
end Go.Lift.K
namespace Go.Lift.K
open Go Go.Lift Classical
set_option maxRecDepth 100000
theorem zn3 {a b : TreeT} (ha : Gd a.nodes) (hb : Gd b.nodes) (hao : a.ok) (hbo : b.ok) {x y : Nat} (hx : x < a.nodes.length) (hy : y < b.nodes.length) (st : St) :
  z05 G (.fn 120 [] []) [.d a.d, .d b.d, .d (.int .i64 x), .d (.int .i64 y)] st = some (.d (.bool (decide (bis a.nodes b.nodes x y))), st) := by
 obtain ⟨rs, ⟨o, n, c, rfl, hn⟩, hW⟩ := zx8 ha hb hao hbo hx hy
 have hx0 : ∀ a b c : V, [a, b, c][0]? = some a := fun _ _ _ => rfl
 have hx1 : ∀ a b c : V, [a, b, c][1]? = some b := fun _ _ _ => rfl
 have hx2 : ∀ a b c : V, [a, b, c][2]? = some c := fun _ _ _ => rfl
 simp only [TreeT.d, List.map_cons, List.map_nil, tupV] at hW
 refine z0f (ds := [a.d, b.d, .int .i64 (x : Nat), .int .i64 (y : Nat)]) (rs := [.bool (decide (bis a.nodes b.nodes x y))]) T1.g120 rfl rfl (fun e w_len harg => ?_) st
 have w_len : e.length = 23 := w_len
 have w_0 := harg 0 (by simp)
 have w_1 := harg 1 (by simp)
 have w_2 := harg 2 (by simp)
 have w_3 := harg 3 (by simp)
 clear harg
 simp only [List.map_cons, List.map_nil, List.getD_cons_zero, List.getD_cons_succ] at w_0 w_1 w_2 w_3
 by_cases h : n < 0
 ·simp only [T1.i120, TreeT.d, hW, hx0, hx1, hx2, h, w_len, w_0, w_1, w_2, w_3, ↓LA, LB, simprocAttr]
  exact rq1 (by simp [hn.1 h])
 ·simp only [T1.i120, TreeT.d, hW, hx0, hx1, hx2, h, w_len, w_0, w_1, w_2, w_3, ↓LA, LB, simprocAttr]
  exact rq1 (by simp; exact fun k => h (hn.2 k))
theorem zw5 {E : Nat → Nat → Prop} {L : List Nat} {i N x : Nat} (h : x < N) : (nxs E L i N)[x]'(by rw [z3x]; exact h) = .int .i64 (if x ∈ L.take i then ((cls E (reps E L) x : Nat) : Int) else -1) := by simp [nxs]
theorem zp6 {n : Nat} : ((n : Int) < 0) = False := by simp
set_option maxHeartbeats 4000000 in
theorem zgz {t : TreeT} (hg : Gd t.nodes) (ht : t.ok) {r : Nat} (hrt : t.root = r) (hr : r < t.nodes.length) (st : St) :
  z05 G (.fn 95 [] []) [.d t.d] st = some (.d (.sl (nxs (bis t.nodes t.nodes) (z21 t.nodes r) (z21 t.nodes r).length t.nodes.length)), st) := by
 have hn := hg.rt
 have hl := hg.len
 obtain ⟨hnd, hlt, hcl, hhd⟩ := z1h hn hr
 have hrl := z5x hn hr
 have hR := fun st => z8e hg hr st
 have hA := fun (x y : Nat) hx hy st => zn3 (x := x) (y := y) hg hg ht ht hx hy st
 simp only [TreeT.d, hrt] at hR hA
 obtain ⟨L, hL⟩ : ∃ L, L = z21 t.nodes r := ⟨_, rfl⟩
 rw [← hL] at hnd hlt hcl hhd hrl hR ⊢
 have hmk := fun (key : Nat) (st : St) => zj5 (key := key) (eb := 8) (n := t.nodes.length) (x := .int .i64 0) (st := st) rfl (by omega) (by omega)
 have hf0 := zk8 (N := t.nodes.length)
 refine z0f (ds := [t.d]) (rs := [.sl (nxs (bis t.nodes t.nodes) L L.length t.nodes.length)]) T1.g95 rfl rfl (fun e w_len harg => ?_) st
 have w_len : e.length = 89 := w_len
 have w_0 := harg 0 (by simp)
 clear harg
 simp only [List.map_cons, List.map_nil, List.getD_cons_zero] at w_0
 simp only [T1.i95, TreeT.d, hrt, hmk, hf0, List.length_map, w_len, w_0, ↓LA, LB, simprocAttr]
 refine z09 (fun e0 s0 m env st => ∃ (q nxq lwq : Nat) (sq : List (Nat × Obj)), m = t.nodes.length - q ∧ (q ≤ t.nodes.length) ∧ sget sq (0) = some (.cells [.d (.sl (t.nodes.map NodeT.d)), .d (.int .i64 r)]) ∧ sget sq (5) = some (.cells (scs (fls q t.nodes.length))) ∧ 6 ≤ nxq ∧ 0 ≤ lwq ∧ env.length = 89 ∧ env.getD 4 .undef = .d (.int .i64 q) ∧ env.getD 1 .undef = .ptr 0 0 ∧ env.getD 3 .undef = .arr 5 1 false 0 t.nodes.length ∧ st = { s := sq, next := nxq, low := lwq }) ?_ (t.nodes.length) (by refine ⟨0, _, _, _, rfl, by omega, ?_, ?_, (by omega), Nat.zero_le _, ?_, ?_, ?_, ?_, rfl⟩ <;> simp only [w_len, LB, simprocAttr])
 rintro m env st ⟨q, nxq, lwq, sq, hm, f_0, w_fc0, w_fc1, w_fb, w_flo, w_len, w_4, w_1, w_3, rfl⟩
 have w_fN := And.intro (cf1 (x := nxq) (a := 0) (by omega)) (cf1 (x := nxq) (a := 5) (by omega))
 have w_fS := And.intro (cf2 (x := nxq) (by omega) w_fc0) (cf2 (x := nxq) (by omega) w_fc1)
 have w_fZ := zf0 (x := nxq) (n := 6) (by omega)
 by_cases hq : q < t.nodes.length
 ·have hst := z5i (ds := fls q t.nodes.length) (x := .int .i64 (-1)) (i := q) (by rw [z8u]; exact hq)
  simp only [hq, z3f hq, hst, zqu hq, z02 hq (by omega), w_len, w_4, w_3, w_fc1, ↓LA, LB, simprocAttr]
  exact z08 (by refine ⟨_, by omega, q + 1, _, _, _, rfl, by omega, ?_, ?_, (by omega), Nat.zero_le _, ?_, ?_, ?_, ?_, rfl⟩ <;> simp only [w_len, w_1, w_3, w_fc0, w_fS, LB, simprocAttr])
 have hqe : q = t.nodes.length := by omega
 subst hqe
 have hfa := zqv (E := bis t.nodes t.nodes) (L := L) (N := t.nodes.length)
 rw [hfa] at w_fc1
 have w_x2 : (reps (bis t.nodes t.nodes) []).length = 0 := rfl
 simp only [hq, hR, w_len, w_4, w_1, w_3, w_fc0, ↓LA, LB, simprocAttr]
 refine z09 (fun e0 s0 m env st => ∃ (i nxi lwi : Nat) (si : List (Nat × Obj)), m = L.length - i ∧ (i ≤ L.length) ∧ sget si (0) = some (.cells [.d (.sl (t.nodes.map NodeT.d)), .d (.int .i64 r)]) ∧ sget si (5) = some (.cells (scs (nxs (bis t.nodes t.nodes) L i t.nodes.length))) ∧ 6 ≤ nxi ∧ 0 ≤ lwi ∧ env.length = 89 ∧ env.getD 7 .undef = .d (.int .i64 i) ∧ env.getD 1 .undef = .ptr 0 0 ∧ env.getD 3 .undef = .arr 5 1 false 0 t.nodes.length ∧ env.getD 5 .undef = .d (.sl (dis L)) ∧ env.getD 6 .undef = .d (.int .i64 (reps (bis t.nodes t.nodes) (L.take i)).length) ∧ st = { s := si, next := nxi, low := lwi }) ?_ (L.length) (by refine ⟨0, _, _, _, rfl, by omega, ?_, ?_, (by omega), Nat.zero_le _, ?_, ?_, ?_, ?_, ?_, ?_, rfl⟩ <;> simp only [w_len, w_1, w_3, w_fc0, w_fc1, w_x2, LB, simprocAttr])
 rintro m env st ⟨i, nxi, lwi, si, hm, a_0, w_ac0, w_ac1, w_ab, w_alo, w_len, w_7, w_1, w_3, w_5, w_6, rfl⟩
 have w_aN := And.intro (cf1 (x := nxi) (a := 0) (by omega)) (cf1 (x := nxi) (a := 5) (by omega))
 have w_aS := And.intro (cf2 (x := nxi) (by omega) w_ac0) (cf2 (x := nxi) (by omega) w_ac1)
 have w_aZ := zf0 (x := nxi) (n := 6) (by omega)
 by_cases hi : i < L.length
 ·have hx := hlt L[i] (List.getElem_mem hi)
  have hni : L[i] ∉ L.take i := fun h => by
   obtain ⟨j, hj, e⟩ := List.mem_iff_getElem.1 h
   rw [List.length_take] at hj
   rw [List.getElem_take] at e
   have := (List.getElem_inj (h₀ := by omega) (h₁ := hi) hnd).1 e
   omega
  have hyi : L[i] ∈ L.take (i + 1) := by rw [z16 hi]; exact List.mem_append_right _ (List.mem_singleton_self _)
  simp only [hi, dis_len, w_len, w_7, w_5, ↓LA, LB, simprocAttr]
  refine z09 (fun e0 s0 m env st => ∃ (k nxk lwk : Nat) (sk : List (Nat × Obj)) (f : Nat), m = L.length - k ∧ (k ≤ L.length) ∧ ((f = i ∧ ∀ q (h : q < L.length), q < k → ¬ bis t.nodes t.nodes L[q] L[i]) ∨ (f = i + 1 ∧ ∃ q, ∃ h : q < L.length, q < i ∧ bis t.nodes t.nodes L[q] L[i])) ∧ sget sk (0) = some (.cells [.d (.sl (t.nodes.map NodeT.d)), .d (.int .i64 r)]) ∧ sget sk (5) = some (.cells (scs (nxs (bis t.nodes t.nodes) L f t.nodes.length))) ∧ 6 ≤ nxk ∧ 0 ≤ lwk ∧ env.length = 89 ∧ env.getD 8 .undef = .d (.int .i64 k) ∧ env.getD 1 .undef = .ptr 0 0 ∧ env.getD 3 .undef = .arr 5 1 false 0 t.nodes.length ∧ env.getD 5 .undef = .d (.sl (dis L)) ∧ env.getD 6 .undef = .d (.int .i64 (reps (bis t.nodes t.nodes) (L.take i)).length) ∧ env.getD 7 .undef = .d (.int .i64 i) ∧ st = { s := sk, next := nxk, low := lwk }) ?_ (L.length) (by refine ⟨0, _, _, _, i, rfl, by omega, .inl ⟨rfl, fun q h h' => by omega⟩, ?_, ?_, (by omega), Nat.zero_le _, ?_, ?_, ?_, ?_, ?_, ?_, ?_, rfl⟩ <;> simp only [w_len, w_7, w_1, w_3, w_5, w_6, w_ac0, w_ac1, LB, simprocAttr])
  rintro m env st ⟨k, nxk, lwk, sk, f, hm, b_0, b_1, w_bc0, w_bc1, w_bb, w_blo, w_len, w_8, w_1, w_3, w_5, w_6, w_7, rfl⟩
  have w_bN := And.intro (cf1 (x := nxk) (a := 0) (by omega)) (cf1 (x := nxk) (a := 5) (by omega))
  have w_bS := And.intro (cf2 (x := nxk) (by omega) w_bc0) (cf2 (x := nxk) (by omega) w_bc1)
  have w_bZ := zf0 (x := nxk) (n := 6) (by omega)
  have hat := z95 (ds := nxs (bis t.nodes t.nodes) L f t.nodes.length) (i := L[i]) (by rw [z3x]; exact hx)
  have hat2 := zw5 (E := bis t.nodes t.nodes) (L := L) (i := f) hx
  have e := z2t (E := bis t.nodes t.nodes) z5s hi
  rcases b_1 with ⟨hf, hno⟩ | ⟨hf, q, hq', hqi, hqb⟩
  ·subst hf
   by_cases hki : k < f
   ·have hkL : k < L.length := by omega
    have hxk := hlt L[k] (List.getElem_mem hkL)
    have hkt : L[k] ∈ L.take f := by
     have : (L.take f)[k]'(by rw [List.length_take]; omega) = L[k] := List.getElem_take
     rw [← this]; exact List.getElem_mem _
    have hatk := z95 (ds := nxs (bis t.nodes t.nodes) L f t.nodes.length) (i := L[k]) (by rw [z3x]; exact hxk)
    have hatk2 := zw5 (E := bis t.nodes t.nodes) (L := L) (i := f) hxk
    have hAk := fun st => hA _ _ hx hxk st
    by_cases hb : bis t.nodes t.nodes L[f] L[k]
    ·have hce := za7 z5s (R := reps (bis t.nodes t.nodes) L) hb
     have hst := z5i (ds := nxs (bis t.nodes t.nodes) L f t.nodes.length) (x := .int .i64 ((cls (bis t.nodes t.nodes) (reps (bis t.nodes t.nodes) L) L[f] : Nat) : Int)) (i := L[f]) (by rw [z3x]; exact hx)
     simp only [hki, z12 hi, z12 hkL, z3f hx, z3f hxk, hat, hat2, hni, hatk, hatk2, hkt, hAk, hb, ← hce, hst, zee hi, z02 hki (by omega), w_len, w_8, w_1, w_3, w_5, w_7, w_bc0, w_bc1, ↓LA, LB, simprocAttr]
     exact z08 (by refine ⟨_, by omega, k + 1, _, _, _, f + 1, rfl, by omega, .inr ⟨rfl, k, hkL, hki, z36 hb⟩, ?_, ?_, (by omega), Nat.zero_le _, ?_, ?_, ?_, ?_, ?_, ?_, ?_, rfl⟩ <;> simp only [w_len, w_1, w_3, w_5, w_6, w_7, w_bc0, w_bS, LB, simprocAttr])
    ·simp only [hki, z12 hi, z12 hkL, z3f hx, hat, hat2, hni, hAk, hb, z02 hki (by omega), w_len, w_8, w_1, w_3, w_5, w_7, w_bc0, w_bc1, ↓LA, LB, simprocAttr]
     exact z08 (by refine ⟨_, by omega, k + 1, _, _, _, f, rfl, by omega, .inl ⟨rfl, fun q h h' => if e : q = k then fun hb' => hb (z36 (by subst e; exact hb')) else hno q h (by omega)⟩, ?_, ?_, (by omega), Nat.zero_le _, ?_, ?_, ?_, ?_, ?_, ?_, ?_, rfl⟩ <;> simp only [w_len, w_1, w_3, w_5, w_6, w_7, w_bc0, w_bc1, LB, simprocAttr])
   ·have hnn : ¬ ∃ r ∈ reps (bis t.nodes t.nodes) (L.take f), bis t.nodes t.nodes r L[f] := by
     rintro ⟨p, hp, hpb⟩
     obtain ⟨j, hj, rfl⟩ := List.mem_iff_getElem.1 (z7i hp)
     rw [List.length_take] at hj
     rw [List.getElem_take] at hpb
     exact hno j (by omega) (by omega) hpb
    rw [if_neg hnn] at e
    have hcn := z8m hi hnn
    have w_ol : (reps (bis t.nodes t.nodes) (L.take (f + 1))).length = (reps (bis t.nodes t.nodes) (L.take f)).length + 1 := by rw [e]; simp
    have hrl2 := z4g (E := bis t.nodes t.nodes) (l := L.take f)
    rw [List.length_take] at hrl2
    have hst := z5i (ds := nxs (bis t.nodes t.nodes) L f t.nodes.length) (x := .int .i64 ((cls (bis t.nodes t.nodes) (reps (bis t.nodes t.nodes) L) L[f] : Nat) : Int)) (i := L[f]) (by rw [z3x]; exact hx)
    have hns := zee (E := bis t.nodes t.nodes) (N := t.nodes.length) hi
    rw [hcn] at hst hns
    have hws : IntKind.i64.wrap (((reps (bis t.nodes t.nodes) (L.take f)).length : Int) + 1) = (((reps (bis t.nodes t.nodes) (L.take f)).length + 1 : Nat) : Int) := by rw [z4u (by omega) (by omega)]; omega
    simp only [hki, z12 hi, z3f hx, hat, hat2, hni, hst, hns, hws, z02 hi (by omega), w_len, w_8, w_3, w_5, w_6, w_7, w_bc1, ↓LA, LB, simprocAttr]
    exact z08 (by refine ⟨_, by omega, f + 1, _, _, _, rfl, by omega, ?_, ?_, (by omega), Nat.zero_le _, ?_, ?_, ?_, ?_, ?_, ?_, rfl⟩ <;> simp only [w_len, w_1, w_3, w_5, w_bc0, w_bS, w_ol, LB, simprocAttr])
  ·subst hf
   have hoo : ∃ r ∈ reps (bis t.nodes t.nodes) (L.take i), bis t.nodes t.nodes r L[i] := by
    have : (L.take i)[q]'(by rw [List.length_take]; omega) = L[q] := List.getElem_take
    obtain ⟨p, hp, hpb⟩ := z2l (E := bis t.nodes t.nodes) (fun _ => z3j) (l := L.take i) (x := L[q]) (by rw [← this]; exact List.getElem_mem _)
    exact ⟨p, hp, z27 hpb hqb⟩
   have w_oe := e
   rw [if_pos hoo] at w_oe
   by_cases hki : k < i
   ·simp only [hki, z12 hi, z3f hx, hat, hat2, hyi, zp6, z02 hi (by omega), w_len, w_8, w_3, w_5, w_7, w_bc1, ↓LA, LB, simprocAttr]
    exact z08 (by refine ⟨_, by omega, i + 1, _, _, _, rfl, by omega, ?_, ?_, (by omega), Nat.zero_le _, ?_, ?_, ?_, ?_, ?_, ?_, rfl⟩ <;> simp only [w_len, w_1, w_3, w_5, w_6, w_bc0, w_bc1, w_oe, LB, simprocAttr])
   ·simp only [hki, z12 hi, z3f hx, hat, hat2, hyi, zp6, z02 hi (by omega), w_len, w_8, w_3, w_5, w_7, w_bc1, ↓LA, LB, simprocAttr]
    exact z08 (by refine ⟨_, by omega, i + 1, _, _, _, rfl, by omega, ?_, ?_, (by omega), Nat.zero_le _, ?_, ?_, ?_, ?_, ?_, ?_, rfl⟩ <;> simp only [w_len, w_1, w_3, w_5, w_6, w_bc0, w_bc1, w_oe, LB, simprocAttr])
 ·have hie : i = L.length := by omega
  subst hie
  simp only [hi, dis_len, w_len, w_7, w_3, w_5, ↓LA, LB, simprocAttr]
  exact rql1 (by have := z9q w_ac1 zw4; rw [z3x] at this; exact this) rfl
end Go.Lift.K
namespace Go.Lift.K
open Go Go.Lift Classical
set_option maxRecDepth 100000
theorem zob {ns : List NodeT} {L : List Nat} {i : Nat} (hi : i < L.length) : cls (bis ns ns) (reps (bis ns ns) L) L[i] < (reps (bis ns ns) (L.take i)).length ↔ ∃ r ∈ reps (bis ns ns) (L.take i), bis ns ns r L[i] := by
 constructor
 ·intro h
  apply Classical.byContradiction
  intro ho
  rw [z8m hi ho] at h
  exact Nat.lt_irrefl _ h
 ·intro h
  exact (zd3 h).1
theorem zmd {t : TreeT} (hg : Gd t.nodes) (ht : t.ok) {r : Nat} (hrt : t.root = r) (hr : r < t.nodes.length) (st : St) :
  z05 G (.fn 48 [] []) [.d t.d] st = some (.d (z1o t).d, st) := by
 have hlr : z1o t = ⟨z0u t.nodes r, 0⟩ := by unfold z1o; rw [hrt]; rfl
 have hn := hg.rt
 have hl := hg.len
 obtain ⟨hnd, hlt, hcl, hhd⟩ := z1h hn hr
 have hrl := z5x hn hr
 have hR := fun st => z8e hg hr st
 have hC := fun st => zgz hg ht hrt hr st
 simp only [TreeT.d, hrt] at hR hC
 have hln : z0u t.nodes r = (z25 t.nodes r).map (z1x t.nodes (z25 t.nodes r)) := rfl
 have hLr : z25 t.nodes r = reps (bis t.nodes t.nodes) (z21 t.nodes r) := rfl
 rw [hlr, hln, hLr]
 obtain ⟨L, hL⟩ : ∃ L, L = z21 t.nodes r := ⟨_, rfl⟩
 rw [← hL] at hnd hlt hcl hhd hrl hR hC ⊢
 refine z0f (ds := [t.d]) (rs := [TreeT.d ⟨(reps (bis t.nodes t.nodes) L).map (z1x t.nodes (reps (bis t.nodes t.nodes) L)), 0⟩]) T1.g48 rfl rfl (fun e w_len harg => ?_) st
 have w_len : e.length = 83 := w_len
 have w_0 := harg 0 (by simp)
 clear harg
 simp only [List.map_cons, List.map_nil, List.getD_cons_zero] at w_0
 simp only [T1.i48, TreeT.d, hrt, hC, hR, w_len, w_0, ↓LA, LB, simprocAttr]
 refine z09 (fun e0 s0 m env st => ∃ (i nxi lwi : Nat) (si : List (Nat × Obj)) (xv : V), m = L.length - i ∧ (i ≤ L.length) ∧ (Gr si false 11 1 nxi 2 true xv ((reps (bis t.nodes t.nodes) (L.take i)).map fun x => (z1x t.nodes (reps (bis t.nodes t.nodes) L) x).d)) ∧ sget si (0) = some (.cells [.d (.sl (t.nodes.map NodeT.d)), .d (.int .i64 r)]) ∧ sget si (1) = some (.cells [.nilS, .d (.int .i64 0)]) ∧ sget si (10) = some (.cells [xv, .d (.int .i64 0)]) ∧ 11 ≤ nxi ∧ 0 ≤ lwi ∧ env.length = 83 ∧ env.getD 6 .undef = .d (.int .i64 i) ∧ env.getD 1 .undef = .ptr 0 0 ∧ env.getD 2 .undef = .ptr 1 0 ∧ env.getD 3 .undef = .d (.sl (nxs (bis t.nodes t.nodes) L L.length t.nodes.length)) ∧ env.getD 4 .undef = .d (.sl (dis L)) ∧ env.getD 5 .undef = .ptr 10 0 ∧ st = { s := si, next := nxi, low := lwi }) ?_ (L.length) (by refine ⟨0, _, _, _, .nilS, rfl, by omega, Gr.nil, ?_, ?_, ?_, (by omega), Nat.zero_le _, ?_, ?_, ?_, ?_, ?_, ?_, ?_, rfl⟩ <;> simp only [w_len, LB, simprocAttr])
 rintro m env st ⟨i, nxi, lwi, si, xv, hm, a_0, a_1, w_ac0, w_ac1, w_ac2, w_ab, w_alo, w_len, w_6, w_1, w_2, w_3, w_4, w_5, rfl⟩
 have w_aN := And.intro (cf1 (x := nxi) (a := 0) (by omega)) (And.intro (cf1 (x := nxi) (a := 1) (by omega)) (cf1 (x := nxi) (a := 10) (by omega)))
 have w_aS := And.intro (cf2 (x := nxi) (by omega) w_ac0) (And.intro (cf2 (x := nxi) (by omega) w_ac1) (cf2 (x := nxi) (by omega) w_ac2))
 have w_aZ := zf0 (x := nxi) (n := 11) (by omega)
 have w_a_1V := And.intro (a_1.away (j := 0) (by omega)) (And.intro (a_1.away (j := 1) (by omega)) (a_1.away (j := 10) (by omega)))
 have w_a_1c := a_1.cell.1
 have w_a_1d := a_1.cell.2
 have w_a_1e := a_1.beq
 have hlen := GP.len a_1
 rw [List.length_map] at hlen
 by_cases hi : i < L.length
 ·have hxL := List.getElem_mem hi
  have hx := hlt L[i] hxL
  by_cases ho : ∃ r ∈ reps (bis t.nodes t.nodes) (L.take i), bis t.nodes t.nodes r L[i]
  ·have hlt2 := (zob hi).2 ho
   have w_oe := z2t (E := bis t.nodes t.nodes) z5s hi
   rw [if_pos ho] at w_oe
   simp only [hi, dis_len, z12 hi, z5a hxL hx, hlen, hlt2, z02 hi (by omega), w_len, w_6, w_3, w_4, w_5, w_ac2, ↓LA, LB, simprocAttr]
   exact z08 (by refine ⟨_, by omega, i + 1, _, _, _, xv, rfl, by omega, (by rw [w_oe]; exact (a_1.frame (fun _ _ _ => rfl)).hi (by omega)), ?_, ?_, ?_, (by omega), Nat.zero_le _, ?_, ?_, ?_, ?_, ?_, ?_, ?_, rfl⟩ <;> simp only [w_len, w_1, w_2, w_3, w_4, w_5, w_ac0, w_ac1, w_ac2, LB, simprocAttr])
  ·have hlt2 : ¬ _ := fun h => ho ((zob hi).1 h)
   simp only [hi, dis_len, z12 hi, z5a hxL hx, hlen, hlt2, z0j hx, w_len, w_6, w_1, w_3, w_4, w_5, w_ac0, w_ac2, ↓LA, LB, simprocAttr]
   obtain ⟨K, hK⟩ : ∃ K, K = (z1x t.nodes (reps (bis t.nodes t.nodes) L) L[i]).kids := ⟨_, rfl⟩
   have hnd' := z1w hx
   have hKl : K.length = t.nodes[L[i]].kids.length := by rw [hK]; unfold z1x; rw [List.length_map, z2o, hnd']
   have hkl := hg.kids _ hx
   rw [hnd'] at hkl
   refine z09 (fun e0 s0 m env st => ∃ (k nxk lwk : Nat) (sk : List (Nat × Obj)) (xw : V), m = t.nodes[L[i]].kids.length - k ∧ (k ≤ t.nodes[L[i]].kids.length) ∧ (Gr sk false (nxi + 28) 0 nxk 1 false xw ((K.take k).map (D.int .i64))) ∧ (Gr sk false 11 1 nxi 2 true xv ((reps (bis t.nodes t.nodes) (L.take i)).map fun x => (z1x t.nodes (reps (bis t.nodes t.nodes) L) x).d)) ∧ sget sk (0) = some (.cells [.d (.sl (t.nodes.map NodeT.d)), .d (.int .i64 r)]) ∧ sget sk (1) = some (.cells [.nilS, .d (.int .i64 0)]) ∧ sget sk (10) = some (.cells [xv, .d (.int .i64 0)]) ∧ sget sk (nxi + 25) = some (.cells [.d (.str t.nodes[L[i]].name), xw]) ∧ nxi + 28 ≤ nxk ∧ 0 ≤ lwk ∧ env.length = 83 ∧ env.getD 8 .undef = .d (.int .i64 k) ∧ env.getD 1 .undef = .ptr 0 0 ∧ env.getD 2 .undef = .ptr 1 0 ∧ env.getD 3 .undef = .d (.sl (nxs (bis t.nodes t.nodes) L L.length t.nodes.length)) ∧ env.getD 4 .undef = .d (.sl (dis L)) ∧ env.getD 5 .undef = .ptr 10 0 ∧ env.getD 6 .undef = .d (.int .i64 i) ∧ env.getD 7 .undef = .ptr (nxi + 25) 0 ∧ st = { s := sk, next := nxk, low := lwk }) ?_ (t.nodes[L[i]].kids.length) (by refine ⟨0, _, _, _, .nilS, rfl, by omega, Gr.nil, a_1.frame (by intro j h1 h2; simp (disch := omega) only [z00]), ?_, ?_, ?_, ?_, (by omega), Nat.zero_le _, ?_, ?_, ?_, ?_, ?_, ?_, ?_, ?_, ?_, rfl⟩ <;> simp only [w_len, w_6, w_1, w_2, w_3, w_4, w_5, w_ac0, w_ac1, w_ac2, w_aN, LB, simprocAttr])
   rintro m env st ⟨k, nxk, lwk, sk, xw, hm, b_0, b_1, b_2, w_bc0, w_bc1, w_bc2, w_bc3, w_bb, w_blo, w_len, w_8, w_1, w_2, w_3, w_4, w_5, w_6, w_7, rfl⟩
   have w_bN := And.intro (cf1 (x := nxk) (a := 0) (by omega)) (And.intro (cf1 (x := nxk) (a := 1) (by omega)) (And.intro (cf1 (x := nxk) (a := 10) (by omega)) (cf1 (x := nxk) (a := nxi + 25) (by omega))))
   have w_bS := And.intro (cf2 (x := nxk) (by omega) w_bc0) (And.intro (cf2 (x := nxk) (by omega) w_bc1) (And.intro (cf2 (x := nxk) (by omega) w_bc2) (cf2 (x := nxk) (by omega) w_bc3)))
   have w_bZ := And.intro (zf (x := nxk) (b := nxi) (n := 28) (by omega) (by omega)) (zf0 (x := nxk) (n := 11) (by omega))
   have w_b_1V := And.intro (b_1.away (j := 0) (by omega)) (And.intro (b_1.away (j := 1) (by omega)) (And.intro (b_1.away (j := 10) (by omega)) (b_1.away (j := nxi + 25) (by omega))))
   have w_b_1c := b_1.cell.1
   have w_b_1d := b_1.cell.2
   have w_b_1e := b_1.beq
   have w_b_2V := And.intro (b_2.away (j := 0) (by omega)) (And.intro (b_2.away (j := 1) (by omega)) (And.intro (b_2.away (j := 10) (by omega)) (b_2.away (j := nxi + 25) (by omega))))
   have w_b_2c := b_2.cell.1
   have w_b_2d := b_2.cell.2
   have w_b_2e := b_2.beq
   by_cases hk : k < t.nodes[L[i]].kids.length
   ·obtain ⟨hke, hkn⟩ := hg.at_ hx hk
    have hkL : kid t.nodes L[i] k ∈ L := hcl _ hxL _ (z3c (by rw [hnd']; exact hk))
    have hkK : k < K.length := by omega
    have hKk : K[k] = ((cls (bis t.nodes t.nodes) (reps (bis t.nodes t.nodes) L) (kid t.nodes L[i] k) : Nat) : Int) := by
     have hk2 : k < (kds t.nodes L[i]).length := by rw [z2o, hnd']; exact hk
     simp only [hK, z1x, List.getElem_map]
     simp [kid, List.getD_eq_getElem?_getD, hk2]
    simp only [hk, z12 hi, z0j hx, z1a hk, hke, z5a hkL hkn, List.length_map, w_len, w_8, w_1, w_3, w_4, w_6, w_7, w_bc0, w_bc3, w_bN, w_b_1e, ↓LA, LB, simprocAttr]
    refine z3z b_1 ?_ (z0h fun a => z5o) z01 ?_ ?_ ?_ ?_ ?_ fun chc0 hc0 => ?_
    ·intro j h1 h2; simp (disch := omega) only [z00]
    ·rfl
    ·omega
    ·simp; omega
    ·simp; omega
    ·exact rfl
    simp only [z02 hk (by omega), w_len, w_8, w_7, w_bc3, w_bN, w_b_1V, ↓LA, LB, simprocAttr]
    have hn2 : (K.take (k + 1)).map (D.int .i64) = (K.take k).map (D.int .i64) ++ [.int .i64 K[k]] := by rw [z16 hkK, List.map_append]; rfl
    rw [hKk] at hn2
    exact z08 (by refine ⟨_, by omega, k + 1, _, _, _, .arr (nxk + 30) 1 false 0 (((K.take k).map (D.int .i64)).length + 1), rfl, by omega, (by rw [hn2]; exact z34 hc0 (by intro j h1 h2 h3; simp (disch := omega) only [z00, z04, z0d h3]) (by omega) (by omega) (by omega) z01 rfl ⟨CV.int, trivial⟩), b_2.frame (by intro j h1 h2; simp (disch := omega) only [z00, z04, z0d (b_1.away (j := j) (by omega))]), ?_, ?_, ?_, ?_, (by omega), Nat.zero_le _, ?_, ?_, ?_, ?_, ?_, ?_, ?_, ?_, ?_, rfl⟩ <;> simp only [w_len, w_1, w_2, w_3, w_4, w_5, w_6, w_7, w_bc0, w_bc1, w_bc2, w_bc3, w_bN, w_aN, w_b_1V, LB, simprocAttr])
   ·have hKt : K.take k = K := List.take_of_length_le (by omega)
    have hgb := b_1
    rw [hKt] at hgb
    simp only [hk, z12 hi, z0j hx, List.length_map, w_len, w_8, w_1, w_4, w_5, w_6, w_7, w_bc0, w_bc2, w_bc3, w_b_1c, ↓LA, LB, simprocAttr]
    have hrl2 := z4g (E := bis t.nodes t.nodes) (l := L.take i)
    rw [List.length_take] at hrl2
    refine z3z b_2 ?_ ((fun x hx => by obtain ⟨y, _, rfl⟩ := List.mem_map.1 hx; exact z3p)) z01 ?_ ?_ ?_ ?_ ?_ fun chc0 hc0 => ?_
    ·intro j h1 h2; simp (disch := omega) only [z00]
    ·rfl
    ·omega
    ·simp; omega
    ·simp; omega
    ·simp only [List.all_cons, List.all_nil, zge, w_b_1c, Bool.and_self]
    simp only [z02 hi (by omega), w_len, w_5, w_6, w_bc2, w_bN, w_b_2V, ↓LA, LB, simprocAttr]
    have w_oe := z2t (E := bis t.nodes t.nodes) z5s hi
    rw [if_neg ho] at w_oe
    have hn2 : ((reps (bis t.nodes t.nodes) (L.take (i + 1))).map fun x => (z1x t.nodes (reps (bis t.nodes t.nodes) L) x).d) = ((reps (bis t.nodes t.nodes) (L.take i)).map fun x => (z1x t.nodes (reps (bis t.nodes t.nodes) L) x).d) ++ [.agg [.str t.nodes[L[i]].name, .sl (K.map (D.int .i64))]] := by
     rw [w_oe, List.map_append, hK, ← hnd']; rfl
    exact z08 (by refine ⟨_, by omega, i + 1, _, _, _, .arr (nxk + 16) 2 true 0 (((reps (bis t.nodes t.nodes) (L.take i)).map fun x => (z1x t.nodes (reps (bis t.nodes t.nodes) L) x).d).length + 1), rfl, by omega, (by rw [hn2]; exact z34 hc0 (by intro j h1 h2 h3; simp (disch := omega) only [z00, z04, z0d h3]) (by omega) (by omega) (by omega) z01 rfl ⟨CV.str, CV.lo (by omega) (CV.hi ((hgb.frame (by intro j h1 h2; simp (disch := omega) only [z00, z04, z0d (b_2.away (j := j) (by omega))])).cv (by omega) (z0h fun a => z5o)) (by omega)), trivial⟩), ?_, ?_, ?_, (by omega), Nat.zero_le _, ?_, ?_, ?_, ?_, ?_, ?_, ?_, rfl⟩ <;> simp only [w_len, w_1, w_2, w_3, w_4, w_5, w_bc0, w_bc1, w_bc2, w_bN, w_b_2V, LB, simprocAttr])
 ·have hie : i = L.length := by omega
  subst hie
  have hga := a_1
  rw [List.take_length] at hga
  simp only [hi, dis_len, w_len, w_6, w_2, w_4, w_5, w_ac1, w_ac2, w_aS, w_a_1c, ↓LA, LB, simprocAttr]
  have hmm : ((reps (bis t.nodes t.nodes) L).map fun x => (z1x t.nodes (reps (bis t.nodes t.nodes) L) x).d) = ((reps (bis t.nodes t.nodes) L).map (z1x t.nodes (reps (bis t.nodes t.nodes) L))).map NodeT.d := by rw [List.map_map]; rfl
  rw [hmm] at hga
  exact rql1 (x := TreeT.d ⟨(reps (bis t.nodes t.nodes) L).map (z1x t.nodes (reps (bis t.nodes t.nodes) L)), 0⟩) (z5w (lv := false) (lo := 11) (n := 2) (hi := nxi) (m := 11) (by omega) (by decide) ⟨(hga.frame (by intro j h1 h2; simp (disch := omega) only [z04])).cv (by omega) (z0h fun a => z3p), CV.int, trivial⟩) rfl
end Go.Lift.K
