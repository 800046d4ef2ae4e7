/- Part C3 of the proof. -/
import Derived.Test.YtgdgkmackccopaaGreatDoorB2
import Derived.Test.YtgdgkmackccopaaGreatDoorA7
import Derived.Test.YtgdgkmackccopaaGreatDoorB6
import Derived.Test.YtgdgkmackccopaaGreatDoorB3
set_option linter.all false
namespace Go.Lift.K
open Go Go.Lift
set_option maxRecDepth 100000
def Sk (s : List (Nat × Obj)) (k : Nat) (bs : List Int) (c : Nat) : Prop := ∃ (n : Nat) (x : Int), n ≤ c ∧ sget s k = some (.cells [.d (.sl (bs.map (D.int .u8))), .d (.int .i64 (n : Nat)), .d (.int .u64 x)])
theorem Sk.mk {s : List (Nat × Obj)} {k c n : Nat} {x : Int} {bs : List Int} (h : sget s k = some (.cells [.d (.sl (bs.map (D.int .u8))), .d (.int .i64 (n : Nat)), .d (.int .u64 x)])) (hn : n ≤ c) : Sk s k bs c := ⟨n, x, hn, h⟩
theorem Sk.frame {s s' : List (Nat × Obj)} {k c c' : Nat} {bs : List Int} (h : Sk s k bs c) (hs : sget s' k = sget s k) (hc : c ≤ c') : Sk s' k bs c' := by
 obtain ⟨n, x, a, b⟩ := h
 exact ⟨n, x, by omega, by rw [hs]; exact b⟩
theorem zky {a b : Int} : binV .xor (.d (.int .u64 a)) (.d (.int .u64 b)) = some (.d (.int .u64 (IntKind.u64.wrap (BitVec.ofInt 64 a ^^^ BitVec.ofInt 64 b).toNat))) := by simp [binV, z1y, binI]; rfl
theorem zl2 {a b : Int} : binV .mul (.d (.int .u64 a)) (.d (.int .u64 b)) = some (.d (.int .u64 (IntKind.u64.wrap (a * b)))) := by simp [binV, z1y, binI]
theorem zl0 {a : Int} {b : Nat} : binV .shl (.d (.int .u64 a)) (.d (.int .u64 (b : Nat))) = some (.d (.int .u64 (IntKind.u64.wrap (a * 2 ^ (Nat.min b 64))))) := by
 simp [binV, z1y, zew]
 rfl
theorem zkz {a : Int} {b : Nat} : binV .shr (.d (.int .u64 a)) (.d (.int .u64 (b : Nat))) = some (.d (.int .u64 (a.fdiv (2 ^ (Nat.min b 64))))) := by
 simp [binV, z1y, zew]
 rfl
theorem zep {a : Int} : 0 ≤ IntKind.u64.wrap a := by
 unfold IntKind.wrap
 simp only [IntKind.bits, IntKind.signed, Bool.false_and, Bool.false_eq_true, if_false]
 omega
theorem zl1 {k : IntKind} {a b : Nat} (h : 0 < b) : binV .rem (.d (.int k (a : Nat))) (.d (.int k (b : Nat))) = some (.d (.int k ((a % b : Nat) : Int))) := by
 have h0 : ¬ ((b : Int) = 0) := by omega
 simp only [binV, z1y, binI, if_neg h0, Bool.false_eq_true, if_false, if_true, Option.map_some]
 rfl
theorem zxd (z : Int) : ∃ r : Nat, V.d (.int .u64 ((IntKind.u64.wrap z).fdiv (2 ^ (Nat.min 33 64)))) = .d (.int .u64 (r : Nat)) := ⟨((IntKind.u64.wrap z).fdiv (2 ^ (Nat.min 33 64))).toNat, by rw [Int.toNat_of_nonneg (Int.fdiv_nonneg zep (by decide))]⟩
def zw0 (s : List (Nat × Obj)) (nx k : Nat) (bs : List Int) (c lw : Nat) (st : St) : Prop := nx ≤ st.next ∧ (∀ q, q < nx → q ≠ k → sget st.s q = sget s q) ∧ Sk st.s k bs (c + 1) ∧ ∀ m, m ≤ lw → m ≤ k → m ≤ st.low
theorem zzt {bs : List Int} (hb : LOk bs) {k c : Nat} (hc : c ≤ 1000000) {s : List (Nat × Obj)} {nx lw : Nat} (hk : k < nx) (h : Sk s k bs c) :
  PostV (z06 G (.fn 36 [] []) [.ptr k 0] { s := s, next := nx, low := lw }) (fun v st => (∃ r : Nat, v = .d (.int .u64 (r : Nat))) ∧ zw0 s nx k bs c lw st) := by
 obtain ⟨n, x, hn, w_h⟩ := h
 unfold LOk at hb
 have w_hs : ∀ o, sget (sset s k o) k = some o := fun o => z04 w_h
 have w_hs2 : ∀ o o', sget (sset (sset s k o) k o') k = some o' := fun o o' => z04 (w_hs o)
 have s13 : ∀ a, binV .shl (.d (.int .u64 a)) (.d (.int .u64 13)) = _ := fun a => zl0 (a := a) (b := 13)
 have s17 : ∀ a, binV .shl (.d (.int .u64 a)) (.d (.int .u64 17)) = _ := fun a => zl0 (a := a) (b := 17)
 have s7 : ∀ a, binV .shr (.d (.int .u64 a)) (.d (.int .u64 7)) = _ := fun a => zkz (a := a) (b := 7)
 have s33 : ∀ a, binV .shr (.d (.int .u64 a)) (.d (.int .u64 33)) = _ := fun a => zkz (a := a) (b := 33)
 refine z1k (first := []) (args := [.ptr k 0]) (cap := []) T1.g36 rfl rfl rfl (fun e w_len harg => ?_)
 have w_len : e.length = 83 := w_len
 have w_0 : e.getD 0 .undef = .ptr k 0 := harg 0 (by simp)
 clear harg
 by_cases h0 : 0 < bs.length
 ·have hr := zl1 (k := .i64) (a := n) h0
  have hi : n % bs.length < bs.length := Nat.mod_lt _ h0
  have hia := z3c (k := .u8) hi
  have hgt : ((0 : Int) < (bs.length : Nat)) = True := eq_true (by omega)
  simp only [T1.i36, hgt, hr, hia, s13, s17, s7, s33, zky, zl2, List.length_map, z08 (show n < 1000001 by omega) (by omega), w_len, w_0, w_h, w_hs, w_hs2, ↓LA, LB, simprocAttr]
  refine ⟨zxd _, by show nx ≤ nx + _; omega, fun q g1 g2 => ?_, Sk.mk (n := n + 1) (z04 (z04 (z04 (z04 (z04 w_h))))) (by omega), fun m g1 g2 => by repeat' (first | omega | refine z01 ?_ ?_)⟩
  simp (disch := omega) only [z03]
 ·have hgt : ((0 : Int) < (bs.length : Nat)) = False := eq_false (by omega)
  simp only [T1.i36, hgt, s13, s17, s7, s33, zky, zl2, List.length_map, w_len, w_0, w_h, w_hs, w_hs2, ↓LA, LB, simprocAttr]
  refine ⟨zxd _, by show nx ≤ nx + _; omega, fun q g1 g2 => ?_, Sk.mk (n := n) (z04 (z04 (z04 w_h))) (by omega), fun m g1 g2 => by repeat' (first | omega | refine z01 ?_ ?_)⟩
  simp (disch := omega) only [z03]
def mmV (b : Bool) (xs : List V) (st : St) : Option (V × St) := match z49 b xs with
 | some v => some (v, st)
 | none => none
theorem y2j {cl : z11} {base : Nat} {env : List V} {st : St} {dst : Option Nat} {g : Option (Nat × Bool)} {kp : List Nat} {b : Bool} {xs : List Opd} : evalIOp cl base env st ⟨dst, .mm b xs, g, kp⟩ = mmV b (xs.map (evO env)) st := rfl
theorem zso {n : Nat} (h : n ≤ 1000000) : IntKind.u64.wrap (n : Int) = n := by
 unfold IntKind.wrap
 simp only [IntKind.bits, IntKind.signed, Bool.false_and, Bool.false_eq_true, if_false]
 omega
theorem y1x {n : Nat} (h : 0 < n) : z49 true [.d (.int .i64 1), .d (.int .i64 (n : Nat))] = some (.d (.int .i64 (n : Nat))) := by
 rw [z49, if_pos rfl, z49, if_pos rfl]
 congr 4
 by_cases e : (n : Int) > 1
 ·rw [if_pos e]
 ·rw [if_neg e]; omega
theorem y1w {n m : Nat} (h : n ≤ m) : z49 false [.d (.int .i64 (n : Nat)), .d (.int .i64 (m : Nat))] = some (.d (.int .i64 (n : Nat))) := by
 rw [z49, if_pos rfl, z49]
 simp only [Bool.false_eq_true, if_false]
 congr 4
 rw [if_neg (by omega)]
theorem z2h {bs : List Int} (hb : LOk bs) {k c : Nat} (hc : c ≤ 1000000) {n : Nat} (h0 : 0 < n) (hn : n ≤ 1000000) {s : List (Nat × Obj)} {nx lw : Nat} (hk : k < nx) (h : Sk s k bs c) :
  PostV (z06 G (.fn 14 [] []) [.ptr k 0, .d (.int .i64 (n : Nat))] { s := s, next := nx, low := lw }) (fun v st => (∃ r : Nat, r < n ∧ v = .d (.int .i64 (r : Nat))) ∧ zw0 s nx k bs c lw st) := by
 refine z1k (first := []) (args := [.ptr k 0, .d (.int .i64 (n : Nat))]) (cap := []) T1.g14 rfl rfl rfl (fun e w_len harg => ?_)
 have w_len : e.length = 12 := w_len
 have w_0 : e.getD 0 .undef = .ptr k 0 := harg 0 (by simp)
 have w_1 : e.getD 1 .undef = .d (.int .i64 (n : Nat)) := harg 1 (by simp)
 clear harg
 simp only [T1.i14, w_len, w_0, ↓LA, LB, simprocAttr]
 refine z0s (zzt hb hc (by omega) h) fun v st hR => ?_
 obtain ⟨⟨r, rfl⟩, h1, h2, h3, h4⟩ := hR
 obtain ⟨s1, n1, l1⟩ := st
 have h1 : nx + 9 ≤ n1 := h1
 have hm := y1x h0
 have hw := zso hn
 have hr := zl1 (k := .u64) (a := r) h0
 have hlt : r % n < n := Nat.mod_lt _ h0
 have hw2 : IntKind.i64.wrap ((r % n : Nat) : Int) = ((r % n : Nat) : Int) := z3f (by omega) (by omega)
 simp only [↓y2j, mmV, hm, hw, hr, hw2, w_len, w_1, ↓LA, LB, simprocAttr]
 exact ⟨⟨_, hlt, rfl⟩, by show nx ≤ n1; omega, fun q g1 g2 => h2 q (by omega) g2, h3, fun m g1 g2 => z01 g1 (h4 m (by omega) g2)⟩
theorem z67 {bs : List Int} (hb : LOk bs) {k c : Nat} (hc : c ≤ 1000000) {lo hi : Nat} (h0 : lo ≤ hi) (hn : hi ≤ 100000) {s : List (Nat × Obj)} {nx lw : Nat} (hk : k < nx) (h : Sk s k bs c) :
  PostV (z06 G (.fn 13 [] []) [.ptr k 0, .d (.int .i64 (lo : Nat)), .d (.int .i64 (hi : Nat))] { s := s, next := nx, low := lw }) (fun v st => (∃ r : Nat, lo ≤ r ∧ r ≤ hi ∧ v = .d (.int .i64 (r : Nat))) ∧ zw0 s nx k bs c lw st) := by
 have e1 : IntKind.i64.wrap ((hi : Int) - (lo : Int)) = ((hi - lo : Nat) : Int) := by rw [z3f (by omega) (by omega)]; omega
 have e2 : IntKind.i64.wrap (((hi - lo : Nat) : Int) + 1) = ((hi - lo + 1 : Nat) : Int) := by rw [z3f (by omega) (by omega)]; omega
 refine z1k (first := []) (args := [.ptr k 0, .d (.int .i64 (lo : Nat)), .d (.int .i64 (hi : Nat))]) (cap := []) T1.g13 rfl rfl rfl (fun e w_len harg => ?_)
 have w_len : e.length = 15 := w_len
 have w_0 : e.getD 0 .undef = .ptr k 0 := harg 0 (by simp)
 have w_1 : e.getD 1 .undef = .d (.int .i64 (lo : Nat)) := harg 1 (by simp)
 have w_2 : e.getD 2 .undef = .d (.int .i64 (hi : Nat)) := harg 2 (by simp)
 clear harg
 simp only [T1.i13, e1, e2, w_len, w_0, w_1, w_2, ↓LA, LB, simprocAttr]
 refine z0s (z2h hb hc (by omega) (by omega) (by omega) h) fun v st hR => ?_
 obtain ⟨⟨r, hr, rfl⟩, hD⟩ := hR
 obtain ⟨s1, n1, l1⟩ := st
 have e3 : IntKind.i64.wrap ((lo : Int) + (r : Int)) = ((lo + r : Nat) : Int) := by rw [z3f (by omega) (by omega)]; omega
 simp only [e3, w_len, ↓LA, LB, simprocAttr]
 obtain ⟨h1, h2, h3, h4⟩ := hD
 have h1 : nx + 10 ≤ n1 := h1
 exact ⟨⟨_, by omega, by omega, rfl⟩, by show nx ≤ n1; omega, fun q g1 g2 => h2 q (by omega) g2, h3, fun m g1 g2 => z01 g1 (h4 m (by omega) g2)⟩
theorem zy7 {bs : List Int} (hb : LOk bs) {k c : Nat} (hc : c ≤ 1000000) {n : Nat} (h0 : 0 < n) (hn : n ≤ 100000) {s : List (Nat × Obj)} {nx lw : Nat} (hk : k < nx) (h : Sk s k bs c) :
  PostV (z06 G (.fn 15 [] []) [.ptr k 0, .d (.int .i64 (n : Nat))] { s := s, next := nx, low := lw }) (fun v st => (∃ b : Bool, v = .d (.bool b)) ∧ zw0 s nx k bs c lw st) := by
 refine z1k (first := []) (args := [.ptr k 0, .d (.int .i64 (n : Nat))]) (cap := []) T1.g15 rfl rfl rfl (fun e w_len harg => ?_)
 have w_len : e.length = 9 := w_len
 have w_0 : e.getD 0 .undef = .ptr k 0 := harg 0 (by simp)
 have w_1 : e.getD 1 .undef = .d (.int .i64 (n : Nat)) := harg 1 (by simp)
 clear harg
 simp only [T1.i15, w_len, w_0, w_1, ↓LA, LB, simprocAttr]
 refine z0s (z2h hb hc h0 (by omega) (by omega) h) fun v st hR => ?_
 obtain ⟨⟨r, hr, rfl⟩, hD⟩ := hR
 obtain ⟨s1, n1, l1⟩ := st
 simp only [w_len, ↓LA, LB, simprocAttr]
 obtain ⟨h1, h2, h3, h4⟩ := hD
 have h1 : nx + 6 ≤ n1 := h1
 exact ⟨⟨_, rfl⟩, by show nx ≤ n1; omega, fun q g1 g2 => h2 q (by omega) g2, h3, fun m g1 g2 => z01 g1 (h4 m (by omega) g2)⟩
theorem z8b {bs : List Int} (hb : LOk bs) {s : List (Nat × Obj)} {nx lw : Nat} :
  PostV (z06 G (.fn 5 [] []) [.d (.sl (bs.map (D.int .u8)))] { s := s, next := nx, low := lw }) (fun v st => ∃ k, v = .ptr k 0 ∧ nx ≤ k ∧ k < st.next ∧ (∀ q, q < nx → sget st.s q = sget s q) ∧ Sk st.s k bs 0 ∧ ∀ m, m ≤ lw → m ≤ nx → m ≤ st.low) := by
 refine z1k (first := []) (args := [.d (.sl (bs.map (D.int .u8)))]) (cap := []) T1.g5 rfl rfl rfl (fun e w_len harg => ?_)
 have w_len : e.length = 10 := w_len
 have w_0 : e.getD 0 .undef = .d (.sl (bs.map (D.int .u8))) := harg 0 (by simp)
 clear harg
 simp only [T1.i5, List.length_map, w_len, w_0, ↓LA, LB, simprocAttr]
 exact ⟨_, rfl, by omega, by omega, fun q g => by rw [if_neg (by omega)], Sk.mk (n := 0) z02 (Nat.le_refl 0), fun m g1 g2 => by repeat' (first | omega | refine z01 ?_ ?_)⟩
end Go.Lift.K
namespace Go.Lift.K
open Go Go.Lift
set_option maxRecDepth 100000
def nms : Nat → List (List Nat)
 | 0 => [[97], [110, 105, 108], [98]]
 | 1 => [[115], [117], [116]]
 | _ => [[99, 111, 110, 115], [112], [113]]
theorem zp9 {k : Nat} : (nms k).length = 3 := by
 match k with
 | 0 => rfl
 | 1 => rfl
 | _ + 2 => rfl
theorem y1o {k : Nat} {x : List Nat} (h : x ∈ nms k) : z0z x = true ∧ SOk x := by
 have hs : ∀ x ∈ [[97], [110, 105, 108], [98], [115], [117], [116], [99, 111, 110, 115], [112], [113]], z0z x = true ∧ (∀ c ∈ x, c < 256) ∧ x.length ≤ 9223372036854775807 := by decide
 refine hs x ?_
 match k with
 | 0 => simp only [nms, List.mem_cons, List.not_mem_nil, or_false] at h; rcases h with rfl | rfl | rfl <;> simp
 | 1 => simp only [nms, List.mem_cons, List.not_mem_nil, or_false] at h; rcases h with rfl | rfl | rfl <;> simp
 | _ + 2 => simp only [nms, List.mem_cons, List.not_mem_nil, or_false] at h; rcases h with rfl | rfl | rfl <;> simp
theorem nm0 : Good T1.G (37, [.int .i64 0], [.agg ((nms 0).map D.str)]) := z63 (T := []) all_nil (m := 1000) (n := 100) T1.g37 rfl rfl (by kernel_rfl)
theorem nm1 : Good T1.G (37, [.int .i64 1], [.agg ((nms 1).map D.str)]) := z63 (T := []) all_nil (m := 1000) (n := 100) T1.g37 rfl rfl (by kernel_rfl)
theorem nm2 : Good T1.G (37, [.int .i64 2], [.agg ((nms 2).map D.str)]) := z63 (T := []) all_nil (m := 1000) (n := 100) T1.g37 rfl rfl (by kernel_rfl)
theorem ztp {k : Nat} (h : k ≤ 2) (st : St) : z06 T1.G (.fn 37 [] []) [.d (.int .i64 (k : Nat))] st = some (.d (.agg ((nms k).map D.str)), st) := by
 have hg : ∀ {a r : D} (_ : Good T1.G (37, [a], [r])), z06 T1.G (.fn 37 [] []) [.d a] st = some (.d r, st) := fun h => by
  obtain ⟨F, h1, h2, h3, h4⟩ := h
  exact zd6 (ds := [_]) (rs := [_]) h1 h2 h3 h4
 have hk : k = 0 ∨ k = 1 ∨ k = 2 := by omega
 rcases hk with rfl | rfl | rfl
 ·exact hg nm0
 ·exact hg nm1
 ·exact hg nm2
def zzi (len es : Nat) (ag : Bool) (x i : V) (st : St) : Option (V × St) := match asI i with
 | some i => match z73 len es ag x i with
  | some v => some (v, st)
  | none => none
 | none => none
theorem zr7 {cl : z11} {base : Nat} {env : List V} {st : St} {dst : Option Nat} {g : Option (Nat × Bool)} {kp : List Nat} {len es : Nat} {ag : Bool} {x i : Opd} : evalIOp cl base env st ⟨dst, .indexA len es ag x i, g, kp⟩ = zzi len es ag (evO env x) (evO env i) st := rfl
theorem zzh {k j : Nat} (hj : j < (nms k).length) {st : St} : zzi 3 1 false (.d (.agg ((nms k).map D.str))) (.d (.int .i64 (j : Nat))) st = some (.d (.str (nms k)[j]), st) := by
 have hl := zp9 (k := k)
 simp only [zzi, asI, z73]
 rw [if_pos ⟨by omega, by omega⟩]
 have hk : ∀ l : List (List Nat), (h : j < l.length) → l.length = 3 → z82 (((j : Nat) : Int).toNat * 1) 1 false (.d (.agg (l.map D.str))) = some (.d (.str l[j])) := fun l h h3 => by
  match l, h3 with
  | [a, b, c], _ =>
   have hj : j = 0 ∨ j = 1 ∨ j = 2 := by simp at h; omega
   rcases hj with rfl | rfl | rfl <;> rfl
 rw [hk _ hj hl]
def Nok (n : Nat) (x : NodeT) : Prop := z0z x.name = true ∧ SOk x.name ∧ x.kids.length ≤ 2 ∧ ∀ q ∈ x.kids, 0 ≤ q ∧ q < n
def y4h (s0 : List (Nat × Obj)) (nx k : Nat) (bs : List Int) (c lw most : Nat) (v : V) (st : St) : Prop :=
 nx ≤ st.next ∧ (∀ q, q < nx → q ≠ k → sget st.s q = sget s0 q) ∧ Sk st.s k bs (c + 3 + 4 * most) ∧ (∀ m, m ≤ lw → m ≤ k → m ≤ st.low) ∧
  ∃ (t : TreeT) (a : V), v = mkAgg [a, .d (.int .i64 t.root)] ∧ GP st.s false (Iv nx st.next) 1 2 true a (t.nodes.map NodeT.d) ∧ 0 < t.nodes.length ∧ t.nodes.length ≤ most ∧ (∀ x ∈ t.nodes, Nok t.nodes.length x) ∧ 0 ≤ t.root ∧ t.root < t.nodes.length
set_option maxHeartbeats 1000000 in
theorem zxt {bs : List Int} (hb : LOk bs) {k c most : Nat} (hm : most ≤ 60) (h0 : 0 < most) (hc : c ≤ 900000) {s : List (Nat × Obj)} {nx lw : Nat} (hk : k < nx) (h : Sk s k bs c) :
  PostV (z06 T1.G (.fn 16 [] []) [.ptr k 0, .d (.int .i64 (most : Nat))] { s := s, next := nx, low := lw }) (y4h s nx k bs c lw most) := by
 have hmin : z49 false [.d (.int .i64 (most : Nat)), .d (.int .i64 60)] = some (.d (.int .i64 (most : Nat))) := y1w (n := most) (m := 60) hm
 refine z1k (first := []) (args := [.ptr k 0, .d (.int .i64 (most : Nat))]) (cap := []) T1.g16 rfl rfl rfl (fun e w_len harg => ?_)
 have w_len : e.length = 52 := w_len
 have w_0 : e.getD 0 .undef = .ptr k 0 := harg 0 (by simp)
 have w_1 : e.getD 1 .undef = .d (.int .i64 (most : Nat)) := harg 1 (by simp)
 clear harg
 simp only [T1.i16, ↓y2j, mmV, hmin, w_len, w_0, w_1, ↓LA, LB, simprocAttr]
 refine z0s (z67 (lo := 1) (hi := most) hb (by omega) (by omega) (by omega) (by omega) (h.frame (z00 (by omega)) (Nat.le_refl _))) fun v1 st1 hR1 => ?_
 obtain ⟨⟨n, hna, hnb, rfl⟩, hn1, hf1, hS1, hl1⟩ := hR1
 obtain ⟨s1, n1, l1⟩ := st1
 have hn1 : nx + 6 ≤ n1 := hn1
 have hf1 : ∀ q, q < nx + 6 → q ≠ k → sget s1 q = sget ((nx, Obj.cells [V.nilS, V.d (D.int .i64 0)]) :: s) q := hf1
 have w_a0 : sget s1 nx = some (.cells [.nilS, .d (.int .i64 0)]) := (hf1 _ (by omega) (by omega)).trans z02
 simp only [w_len, w_0, ↓LA, LB, simprocAttr]
 refine z0s (z2h (n := n) hb (by omega) (by omega) (by omega) (by omega) hS1) fun v2 st2 hR2 => ?_
 obtain ⟨⟨r, hr, rfl⟩, hn2, hf2, hS2, hl2⟩ := hR2
 obtain ⟨s2, n2, l2⟩ := st2
 have hn2 : n1 + 6 ≤ n2 := hn2
 have hf2 : ∀ q, q < n1 + 6 → q ≠ k → sget s2 q = sget s1 q := hf2
 have w_a1 := (hf2 nx (by omega) (by omega)).trans w_a0
 simp only [w_len, w_0, ↓LA, LB, simprocAttr]
 refine z0s (z67 (lo := 1) (hi := 3) hb (by omega) (by omega) (by omega) (by omega) (hS2.frame (z00 (by omega)) (Nat.le_refl _))) fun v3 st3 hR3 => ?_
 obtain ⟨⟨kd, hka, hkb, rfl⟩, hn3, hf3, hS3, hl3⟩ := hR3
 obtain ⟨s3, n3, l3⟩ := st3
 have hn3 : n2 + 3 ≤ n3 := hn3
 have hf3 : ∀ q, q < n2 + 3 → q ≠ k → sget s3 q = sget ((n1 + 4, Obj.cells [V.nilS, V.d (D.int .i64 (r : Nat))]) :: s2) q := hf3
 have w_a2 : sget s3 nx = some (.cells [.nilS, .d (.int .i64 0)]) := (hf3 nx (by omega) (by omega)).trans ((z00 (by omega)).trans w_a1)
 have w_a3 : sget s3 (n1 + 4) = some (.cells [.nilS, .d (.int .i64 (r : Nat))]) := (hf3 _ (by omega) (by omega)).trans z02
 have hfr3 : ∀ q, q < nx → q ≠ k → sget s3 q = sget s q := fun q g1 g2 => by rw [hf3 q (by omega) g2, z00 (by omega), hf2 q (by omega) g2, hf1 q (by omega) g2, z00 (by omega)]
 have k1 : k ≤ l1 := hl1 k (by repeat' (first | omega | refine z01 ?_ ?_)) (Nat.le_refl _)
 have k2 : k ≤ l2 := hl2 k k1 (Nat.le_refl _)
 have k3 : k ≤ l3 := hl3 k (z01 k2 (by omega)) (Nat.le_refl _)
 simp only [w_len, ↓LA, LB, simprocAttr]
 refine z0e (fun e0 s0 m env st => ∃ (i nxi lwi : Nat) (si : List (Nat × Obj)) (xv : V) (ns : List NodeT), m = n - i ∧ (i ≤ n) ∧ (Sk si k bs (c + 3 + 4 * i)) ∧ (Gr si false (n1 + 5) 1 nxi 2 true xv (ns.map NodeT.d)) ∧ (ns.length = i) ∧ ((∀ x ∈ ns, Nok n x)) ∧ (∀ q, q < nx → q ≠ k → sget si q = sget s q) ∧ sget si (nx) = some (.cells [.nilS, .d (.int .i64 0)]) ∧ sget si (n1 + 4) = some (.cells [xv, .d (.int .i64 (r : Nat))]) ∧ n3 ≤ nxi ∧ k ≤ lwi ∧ env.length = 52 ∧ env.getD 21 .undef = .d (.int .i64 i) ∧ env.getD 0 .undef = .ptr k 0 ∧ env.getD 4 .undef = .ptr nx 0 ∧ env.getD 5 .undef = .d (.int .i64 (n : Nat)) ∧ env.getD 6 .undef = .ptr (n1 + 4) 0 ∧ env.getD 7 .undef = .d (.int .i64 (kd : Nat)) ∧ env.getD 20 .undef = .d (.int .i64 (n : Nat)) ∧ st = { s := si, next := nxi, low := lwi }) ?_ (n) (by refine ⟨0, _, _, _, .nilS, [], rfl, by omega, hS3.frame rfl (by omega), Gr.nil, rfl, (fun x hx => by simp at hx), hfr3, ?_, ?_, (by omega), (by first | exact Nat.zero_le _ | omega | exact z01 (by omega) (by omega) | exact z01 (z01 (by omega) (by omega)) (by omega) | exact z01 (z01 (z01 (by omega) (by omega)) (by omega)) (by omega)), ?_, ?_, ?_, ?_, ?_, ?_, ?_, ?_, rfl⟩ <;> simp only [w_len, w_0, w_a2, w_a3, LB, simprocAttr])
 rintro m env st ⟨i, nxi, lwi, si, xv, ns, hm, a_0, a_1, a_2, a_3, a_4, a_5, w_ac0, w_ac1, w_ab, w_alo, w_len, w_21, w_0, w_4, w_5, w_6, w_7, w_20, rfl⟩
 have w_aN := aI (cf1 (x := nxi) (a := nx) (by omega)) (cf1 (x := nxi) (a := n1 + 4) (by omega))
 have w_aS := aI (cf2 (x := nxi) (by omega) w_ac0) (cf2 (x := nxi) (by omega) w_ac1)
 have w_a_2V := aI (a_2.away (j := nx) (by omega)) (a_2.away (j := n1 + 4) (by omega))
 have w_a_2c := a_2.cell.1
 have w_a_2d := a_2.cell.2
 have w_a_2e := a_2.beq
 by_cases hi : i < n
 ·simp only [hi, w_len, w_21, w_0, w_20, ↓LA, LB, simprocAttr]
  refine z0s (z67 (lo := 0) (hi := 2) hb (by omega) (by omega) (by omega) (by omega) a_1) fun v4 st4 hR4 => ?_
  obtain ⟨⟨kk, _, hkk, rfl⟩, hn4, hf4, hS4, hl4⟩ := hR4
  obtain ⟨s4, n4, l4⟩ := st4
  have hn4 : nxi + 4 ≤ n4 := hn4
  have hf4 : ∀ q, q < nxi + 4 → q ≠ k → sget s4 q = sget si q := hf4
  have k4 : k ≤ l4 := hl4 k (by omega) (Nat.le_refl _)
  have hNm := fun st => ztp hkk st
  simp only [hNm, w_len, w_0, w_7, ↓LA, LB, simprocAttr]
  refine z0s (z2h (n := kd) hb (by omega) (by omega) (by omega) (by omega) hS4) fun v5 st5 hR5 => ?_
  obtain ⟨⟨j5, hj5, rfl⟩, hn5, hf5, hS5, hl5⟩ := hR5
  obtain ⟨s5, n5, l5⟩ := st5
  have hn5 : n4 + 9 ≤ n5 := hn5
  have hf5 : ∀ q, q < n4 + 9 → q ≠ k → sget s5 q = sget s4 q := hf5
  have k5 : k ≤ l5 := hl5 k k4 (Nat.le_refl _)
  have hjl : j5 < (nms kk).length := by rw [zp9]; omega
  have hix := fun st => zzh (st := st) hjl
  obtain ⟨nm, hnm⟩ : ∃ nm, nm = (nms kk)[j5] := ⟨_, rfl⟩
  rw [← hnm] at hix
  obtain ⟨hnm1, hnm2⟩ := y1o (x := nm) (k := kk) (by rw [hnm]; exact List.getElem_mem hjl)
  have hf45 : ∀ q, q < nxi → q ≠ k → sget s5 q = sget si q := fun q g1 g2 => (hf5 q (by omega) g2).trans (hf4 q (by omega) g2)
  have w_b0 := (hf45 nx (by omega) (by omega)).trans w_ac0
  have w_b1 := (hf45 (n1 + 4) (by omega) (by omega)).trans w_ac1
  have w_z4 : (n4 + 7 = nx) = False ∧ (n4 + 3 = n1) = False ∧ (n1 = n4 + 3) = False ∧ (nx = n4 + 7) = False ∧ (n1 + 4 = nx) = False ∧ (nx = n1 + 4) = False ∧ (∀ q, (n4 + 7 + q = nx) = False) := ⟨by simp; omega, by simp; omega, by simp; omega, by simp; omega, by simp; omega, by simp; omega, fun q => by simp; omega⟩
  simp only [↓zr7, hix, w_len, ↓LA, LB, simprocAttr]
  refine z0e (fun e0 s0 m env st => ∃ (j nxj lwj : Nat) (sj : List (Nat × Obj)) (yv : V) (qs : List Int), m = kk - j ∧ (j ≤ kk) ∧ (Sk sj k bs (c + 5 + 4 * i + j)) ∧ (Gr sj false (n4 + 8) 0 nxj 1 false yv (qs.map (D.int .i64))) ∧ (qs.length = j) ∧ ((∀ q ∈ qs, 0 ≤ q ∧ q < (n : Int))) ∧ (Gr sj false (n1 + 5) 1 nxi 2 true xv (ns.map NodeT.d)) ∧ (∀ q, q < nx → q ≠ k → sget sj q = sget s q) ∧ sget sj (nx) = some (.cells [.nilS, .d (.int .i64 0)]) ∧ sget sj (n1 + 4) = some (.cells [xv, .d (.int .i64 (r : Nat))]) ∧ sget sj (n4 + 7) = some (.cells [.d (.str nm), yv]) ∧ n5 ≤ nxj ∧ k ≤ lwj ∧ env.length = 52 ∧ env.getD 33 .undef = .d (.int .i64 j) ∧ env.getD 0 .undef = .ptr k 0 ∧ env.getD 4 .undef = .ptr nx 0 ∧ env.getD 5 .undef = .d (.int .i64 (n : Nat)) ∧ env.getD 6 .undef = .ptr (n1 + 4) 0 ∧ env.getD 7 .undef = .d (.int .i64 (kd : Nat)) ∧ env.getD 20 .undef = .d (.int .i64 (n : Nat)) ∧ env.getD 21 .undef = .d (.int .i64 i) ∧ env.getD 9 .undef = .ptr (n4 + 7) 0 ∧ env.getD 32 .undef = .d (.int .i64 (kk : Nat)) ∧ st = { s := sj, next := nxj, low := lwj }) ?_ (kk) (by refine ⟨0, _, _, _, .nilS, [], rfl, by omega, hS5.frame (z00 (by omega)) (by omega), Gr.nil, rfl, (fun x hx => by simp at hx), a_2.frame (fun q h1 h2 => (z00 (by omega)).trans (hf45 q (by omega) (by omega))), (fun q g1 g2 => (z00 (by omega)).trans ((hf45 q (by omega) g2).trans (a_5 q g1 g2))), ?_, ?_, ?_, (by omega), (by first | exact Nat.zero_le _ | omega | exact z01 (by omega) (by omega) | exact z01 (z01 (by omega) (by omega)) (by omega) | exact z01 (z01 (z01 (by omega) (by omega)) (by omega)) (by omega)), ?_, ?_, ?_, ?_, ?_, ?_, ?_, ?_, ?_, ?_, ?_, rfl⟩ <;> simp only [w_len, w_21, w_0, w_4, w_5, w_6, w_7, w_20, w_b0, w_b1, w_z4, LB, simprocAttr])
  rintro m env st ⟨j, nxj, lwj, sj, yv, qs, hm, b_0, b_1, b_2, b_3, b_4, b_5, b_6, w_bc0, w_bc1, w_bc2, w_bb, w_blo, w_len, w_33, w_0, w_4, w_5, w_6, w_7, w_20, w_21, w_9, w_32, rfl⟩
  have w_bN := aI (cf1 (x := nxj) (a := nx) (by omega)) (aI (cf1 (x := nxj) (a := n1 + 4) (by omega)) (cf1 (x := nxj) (a := n4 + 7) (by omega)))
  have w_bS := aI (cf2 (x := nxj) (by omega) w_bc0) (aI (cf2 (x := nxj) (by omega) w_bc1) (cf2 (x := nxj) (by omega) w_bc2))
  have w_b_2V := aI (b_2.away (j := nx) (by omega)) (aI (b_2.away (j := n1 + 4) (by omega)) (b_2.away (j := n4 + 7) (by omega)))
  have w_b_2c := b_2.cell.1
  have w_b_2d := b_2.cell.2
  have w_b_2e := b_2.beq
  have w_b_5V := aI (b_5.away (j := nx) (by omega)) (aI (b_5.away (j := n1 + 4) (by omega)) (b_5.away (j := n4 + 7) (by omega)))
  have w_b_5c := b_5.cell.1
  have w_b_5d := b_5.cell.2
  have w_b_5e := b_5.beq
  by_cases hj : j < kk
  ·simp only [hj, w_len, w_33, w_0, w_5, w_9, w_32, w_bc2, ↓LA, LB, simprocAttr]
   refine z0s (z2h (n := n) hb (by omega) (by omega) (by omega) (by omega) b_1) fun v6 st6 hR6 => ?_
   obtain ⟨⟨r6, hr6, rfl⟩, hn6, hf6, hS6, hl6⟩ := hR6
   obtain ⟨s6, n6, l6⟩ := st6
   have hn6 : nxj + 10 ≤ n6 := hn6
   have hf6 : ∀ q, q < nxj + 10 → q ≠ k → sget s6 q = sget sj q := hf6
   have k6 : k ≤ l6 := hl6 k (by omega) (Nat.le_refl _)
   have hb2 : Gr s6 false (n4 + 8) 0 nxj 1 false yv (qs.map (D.int .i64)) := b_2.frame fun q h1 h2 => hf6 q (by omega) (by omega)
   have hb5 : Gr s6 false (n1 + 5) 1 nxi 2 true xv (ns.map NodeT.d) := b_5.frame fun q h1 h2 => hf6 q (by omega) (by omega)
   have w_c0 := (hf6 nx (by omega) (by omega)).trans w_bc0
   have w_c1 := (hf6 (n1 + 4) (by omega) (by omega)).trans w_bc1
   have w_c2 := (hf6 (n4 + 7) (by omega) (by omega)).trans w_bc2
   have hgl := z47 hb2 (by omega : k ≤ n4 + 8) k6
   simp only [w_len, w_bc2, w_bN, w_b_2e, w_c2, ↓LA, LB, simprocAttr]
   refine z5i hb2 ?_ (z0j fun a => zb2) z02 ?_ ?_ ?_ ?_ ?_ fun chc0 hc0 => ?_
   ·intro j h1 h2; simp (disch := omega) only [z00]
   ·rfl
   ·omega
   ·simp; omega
   ·simp; omega
   ·exact rfl
   simp only [z08 hj (by omega), w_len, w_33, w_9, w_bN, w_b_2V, w_c2, ↓LA, LB, simprocAttr]
   have hq3 : (qs ++ [(r6 : Int)]).map (D.int .i64) = qs.map (D.int .i64) ++ [D.int .i64 (r6 : Nat)] := by rw [List.map_append]; rfl
   exact z0c (by refine ⟨_, by omega, j + 1, _, _, _, .arr (nxj + 7) 1 false 0 ((qs.map (D.int .i64)).length + 1), qs ++ [(r6 : Int)], rfl, by omega, hS6.frame (by simp (disch := omega) only [z00, z03, z07 (hb2.away (j := k) (by omega))]) (by omega), (by rw [hq3]; exact z5o hc0 (by intro j h1 h2 h3; simp (disch := omega) only [z00, z03, z07 h3]) (by omega) (by omega) (by omega) z02 rfl ⟨CV.int, trivial⟩), (by simp [b_3]), (fun q hq => (List.mem_append.1 hq).elim (b_4 q) (fun hq => by rw [List.mem_singleton] at hq; subst hq; omega)), hb5.frame (by intro j h1 h2; simp (disch := omega) only [z00, z03, z07 (hb2.away (j := j) (by omega))]), (by intro q g1 g2; simp (disch := omega) only [z00, z03, z07 (hb2.away (j := q) (by omega))]; exact (hf6 q (by omega) g2).trans (b_6 q g1 g2)), ?_, ?_, ?_, (by omega), (by first | exact Nat.zero_le _ | omega | exact z01 (by omega) (by omega) | exact z01 (z01 (by omega) (by omega)) (by omega) | exact z01 (z01 (z01 (by omega) (by omega)) (by omega)) (by omega)), ?_, ?_, ?_, ?_, ?_, ?_, ?_, ?_, ?_, ?_, ?_, rfl⟩ <;> simp only [w_len, w_0, w_4, w_5, w_6, w_7, w_20, w_21, w_9, w_32, w_bN, w_b_2V, w_z4, w_c0, w_c1, w_c2, LB, simprocAttr])
  ·have hje : j = kk := by omega
   have hgl := z47 b_5 (by omega : k ≤ n1 + 5) w_blo
   simp only [hj, w_len, w_33, w_6, w_9, w_32, w_bc1, w_bc2, w_b_2c, ↓LA, LB, simprocAttr]
   refine z5i b_5 ?_ (z0j fun a => z9b) z02 ?_ ?_ ?_ ?_ ?_ fun chc0 hc0 => ?_
   ·intro j h1 h2; simp (disch := omega) only [z00]
   ·rfl
   ·omega
   ·simp; omega
   ·simp; omega
   ·simp only [List.all_cons, List.all_nil, zfv, w_b_2c, Bool.and_self]
   simp only [z08 hi (by omega), w_len, w_6, w_21, w_bc1, w_bN, w_b_5V, ↓LA, LB, simprocAttr]
   have hn2 : (ns ++ [(⟨nm, qs⟩ : NodeT)]).map NodeT.d = ns.map NodeT.d ++ [.agg [.str nm, .sl (qs.map (D.int .i64))]] := by rw [List.map_append]; rfl
   exact z0c (by refine ⟨_, by omega, i + 1, _, _, _, .arr (nxj + 5) 2 true 0 ((ns.map NodeT.d).length + 1), ns ++ [⟨nm, qs⟩], rfl, by omega, b_1.frame (by simp (disch := omega) only [z00, z03, z07 (b_5.away (j := k) (by omega))]) (by omega), (by rw [hn2]; exact z5o hc0 (by intro j h1 h2 h3; simp (disch := omega) only [z00, z03, z07 h3]) (by omega) (by omega) (by omega) z02 rfl ⟨CV.str, CV.lo (by omega) (CV.hi ((b_2.frame (by intro j h1 h2; simp (disch := omega) only [z00, z03, z07 (b_5.away (j := j) (by omega))])).cv (by omega) (z0j fun a => zb2)) (by omega)), trivial⟩), (by simp [a_3]), (fun x hx => (List.mem_append.1 hx).elim (a_4 x) (fun hx => by rw [List.mem_singleton] at hx; subst hx; exact ⟨hnm1, hnm2, by show qs.length ≤ 2; omega, b_4⟩)), (by intro q g1 g2; simp (disch := omega) only [z00, z03, z07 (b_5.away (j := q) (by omega))]; exact b_6 q g1 g2), ?_, ?_, (by omega), (by first | exact Nat.zero_le _ | omega | exact z01 (by omega) (by omega) | exact z01 (z01 (by omega) (by omega)) (by omega) | exact z01 (z01 (z01 (by omega) (by omega)) (by omega)) (by omega)), ?_, ?_, ?_, ?_, ?_, ?_, ?_, ?_, rfl⟩ <;> simp only [w_len, w_0, w_4, w_5, w_6, w_7, w_20, w_bc0, w_bc1, w_bN, w_b_5V, w_z4, LB, simprocAttr])
 ·have hie : i = n := by omega
  simp only [hi, w_len, w_21, w_4, w_6, w_20, w_ac0, w_ac1, w_aS, w_a_2c, ↓LA, LB, simprocAttr]
  refine ⟨by show nx ≤ nxi + 3; omega, fun q g1 g2 => (z03 (by omega)).trans (a_5 q g1 g2), a_1.frame (z03 (by omega)) (by omega), fun m g1 g2 => by repeat' (first | omega | refine z01 ?_ ?_), ⟨ns, (r : Int)⟩, xv, rfl, ?_, by show 0 < ns.length; omega, by show ns.length ≤ most; omega, ?_, by show (0 : Int) ≤ r; omega, by show (r : Int) < (ns.length : Nat); omega⟩
  ·exact GP.mono (fun q hq => ⟨by have := hq.1; omega, by have := hq.2; show q < nxi + 3; omega⟩) (a_2.frame (fun q g1 g2 => z03 (by omega)))
  ·show ∀ x ∈ ns, Nok ns.length x
   rw [a_3, hie]; exact a_4
end Go.Lift.K
namespace Go.Lift.K
open Go Go.Lift
set_option maxRecDepth 100000
theorem zwd : ∀ {l : List RelT} {j : Nat} (h : j < l.length), j * 3 + 3 ≤ (((l.map RelT.d).flatMap cellsD).map V.d).length ∧ ((((l.map RelT.d).flatMap cellsD).map V.d).drop (j * 3)).take 3 = [.d (.str l[j].name), .d (.int .i64 l[j].arity), .d (.int .i64 l[j].rank)]
 | t :: l, 0, _ => ⟨by simp [RelT.d, cellsD], rfl⟩
 | t :: l, j + 1, h => by
  have h' : j < l.length := by simp at h; omega
  obtain ⟨h1, h2⟩ := zwd h'
  have e : (j + 1) * 3 = j * 3 + 1 + 1 + 1 := by omega
  have e2 : (((t :: l).map RelT.d).flatMap cellsD).map V.d = V.d (.str t.name) :: V.d (.int .i64 t.arity) :: V.d (.int .i64 t.rank) :: (((l.map RelT.d).flatMap cellsD).map V.d) := rfl
  rw [e2, e]
  refine ⟨by simp only [List.length_cons]; omega, ?_⟩
  rw [List.drop_succ_cons, List.drop_succ_cons, List.drop_succ_cons, h2]
  rfl
theorem zv8 {s : List (Nat × Obj)} {lv : Bool} {S : Nat → Prop} : ∀ {cs : List V} {ds : List D}, CVs (CQ s lv S 0) cs ds → cs = ds.map V.d
 | [], [], _ => rfl
 | [], _ :: _, h => h.elim
 | _ :: _, [], h => h.elim
 | v :: cs, d :: ds, h => by
  obtain ⟨h1, h2⟩ := h
  rw [zv8 h2]
  obtain ⟨rfl, _⟩ := h1
  rfl
theorem y15 {s : List (Nat × Obj)} {lv : Bool} {S : Nat → Prop} {v : V} {l : List RelT} (h : GP s lv S 0 3 true v (l.map RelT.d)) (h0 : 0 < l.length) :
  ∃ k cs, v = .arr k 3 true 0 l.length ∧ S k ∧ sget s k = some (.cells cs) ∧ ∀ j (hj : j < l.length), z0a 3 v (j : Int) = some (.ptr k (j * 3)) ∧
   (j * 3 + 3 ≤ cs.length) = True ∧ (cs.drop (j * 3)).take 3 = [.d (.str l[j].name), .d (.int .i64 l[j].arity), .d (.int .i64 l[j].rank)] := by
 rcases h with ⟨_, e⟩ | ⟨k, cs, rfl, h1, h2, h3⟩
 ·cases l with
  | nil => simp at h0
  | cons x l => simp at e
 ·have e := zv8 h3
  subst e
  refine ⟨k, _, by simp, h1, h2, fun j hj => ?_⟩
  obtain ⟨k1, k2⟩ := zwd hj
  refine ⟨?_, eq_true k1, k2⟩
  rw [List.length_map]
  simp only [z0a]
  rw [if_pos ⟨by omega, by omega, trivial⟩]
  simp
def Tok (most : Nat) (t : TreeT) : Prop := 0 < t.nodes.length ∧ t.nodes.length ≤ most ∧ (∀ x ∈ t.nodes, Nok t.nodes.length x) ∧ 0 ≤ t.root ∧ t.root < t.nodes.length
def y3k (s0 : List (Nat × Obj)) (nx k : Nat) (bs : List Int) (c lw most : Nat) (rels : List RelT) (v : V) (st : St) : Prop :=
 nx ≤ st.next ∧ (∀ q, q < nx → q ≠ k → sget st.s q = sget s0 q) ∧ Sk st.s k bs (c + 1 + 3 * (3 + 4 * most)) ∧ (∀ m, m ≤ lw → m ≤ k → m ≤ st.low) ∧
  ∃ (x : RelT) (ts : List TreeT) (a : V), x ∈ rels ∧ v = mkAgg [.d (.str x.name), a] ∧ GP st.s false (Iv nx st.next) 2 2 true a (ts.map TreeT.d) ∧ (ts.length : Int) = x.arity ∧ ∀ t ∈ ts, Tok most t
set_option maxHeartbeats 1000000 in
theorem zvp {bs : List Int} (hb : LOk bs) {k c most : Nat} (hmo : most ≤ 60) (h0 : 0 < most) (hc : c ≤ 100000) {rels : List RelT} (hr0 : 0 < rels.length) (hr1 : rels.length ≤ 1000) (har : ∀ x ∈ rels, 0 ≤ x.arity ∧ x.arity ≤ 3)
  {ra ca : V} {lv : Bool} {S : Nat → Prop} {s : List (Nat × Obj)} {nx lw : Nat} (hk : k < nx) (h : Sk s k bs c) (hS : ∀ q, S q → q < nx ∧ q ≠ k) (hra : GP s lv S 0 3 true ra (rels.map RelT.d)) (hc1 : ca.isCell = true) (hc2 : cellsV ca = [ca]) (hc3 : V.beq ca ca = true) :
  PostV (z06 G (.fn 6 [] []) [.ptr k 0, mkAgg [ra, ca], .d (.int .i64 (most : Nat))] { s := s, next := nx, low := lw }) (y3k s nx k bs c lw most rels) := by
 obtain ⟨kr, cs, rfl, hkS, hkr, hat⟩ := y15 hra hr0
 obtain ⟨q1, q2⟩ := hS _ hkS
 have hbx : ∀ key st, boxV key (mkAgg [V.arr kr 3 true 0 rels.length, ca]) st = some (.ptr key 0, St.ins st key (.cells [V.arr kr 3 true 0 rels.length, ca])) := fun key st => by
  simp only [boxV, z7u, List.all_cons, List.all_nil, hc1, zwv]; rfl
 refine z1k (first := []) (args := [.ptr k 0, mkAgg [V.arr kr 3 true 0 rels.length, ca], .d (.int .i64 (most : Nat))]) (cap := []) T1.g6 rfl rfl rfl (fun e w_len harg => ?_)
 have w_len : e.length = 35 := w_len
 have w_0 : e.getD 0 .undef = .ptr k 0 := harg 0 (by simp)
 have w_1 : e.getD 1 .undef = mkAgg [V.arr kr 3 true 0 rels.length, ca] := harg 1 (by simp)
 have w_2 : e.getD 2 .undef = .d (.int .i64 (most : Nat)) := harg 2 (by simp)
 clear harg
 simp only [T1.i6, hbx, w_len, w_0, w_1, ↓LA, LB, simprocAttr]
 refine z0s (z2h (n := rels.length) hb (by omega) (by omega) (by omega) (by omega) (h.frame (by rw [z00 (by omega), z00 (by omega)]) (Nat.le_refl _))) fun v1 st1 hR1 => ?_
 obtain ⟨⟨r, hr, rfl⟩, hn1, hf1, hS1, hl1⟩ := hR1
 obtain ⟨s1, n1, l1⟩ := st1
 have hn1 : nx + 13 ≤ n1 := hn1
 have hf1 : ∀ q, q < nx + 13 → q ≠ k → sget s1 q = sget ((nx + 1, Obj.cells [V.d (.str []), V.nilS]) :: (nx, Obj.cells [V.arr kr 3 true 0 rels.length, ca]) :: s) q := hf1
 have k1 : k ≤ l1 := hl1 k (by repeat' (first | omega | refine z01 ?_ ?_)) (Nat.le_refl _)
 have w_a0 : sget s1 nx = some (.cells [V.arr kr 3 true 0 rels.length, ca]) := (hf1 _ (by omega) (by omega)).trans ((z00 (by omega)).trans z02)
 have w_a1 : sget s1 (nx + 1) = some (.cells [V.d (.str []), V.nilS]) := (hf1 _ (by omega) (by omega)).trans z02
 have w_a2 : sget s1 kr = some (.cells cs) := by rw [hf1 _ (by omega) q2, z00 (by omega), z00 (by omega)]; exact hkr
 obtain ⟨g1, g2, g3⟩ := hat r hr
 obtain ⟨x, hx⟩ : ∃ x, x = rels[r] := ⟨_, rfl⟩
 have hxm : x ∈ rels := by rw [hx]; exact List.getElem_mem hr
 rw [← hx] at g3
 obtain ⟨x1, x2⟩ := har x hxm
 obtain ⟨ar, har'⟩ : ∃ ar : Nat, x.arity = ar := ⟨x.arity.toNat, by omega⟩
 rw [har'] at g3
 have w_z : (nx + 11 = kr) = False ∧ (n1 = nx + 8) = False ∧ (nx + 8 = n1) = False ∧ (n1 + 3 = nx + 1) = False ∧ (n1 + 2 = nx) = False ∧ (nx + 1 = n1 + 3) = False ∧ (nx = n1 + 2) = False := ⟨by simp; omega, by simp; omega, by simp; omega, by simp; omega, by simp; omega, by simp; omega, by simp; omega⟩
 simp only [hc3, g1, g2, g3, w_len, w_a0, w_a2, w_z, ↓LA, LB, simprocAttr]
 refine z0e (fun e0 s0 m env st => ∃ (i nxi lwi : Nat) (si : List (Nat × Obj)) (xa : V) (ts : List TreeT), m = ar - i ∧ (i ≤ ar) ∧ (Sk si k bs (c + 1 + i * (3 + 4 * most))) ∧ (Gr si false (n1 + 4) 2 nxi 2 true xa (ts.map TreeT.d)) ∧ (ts.length = i) ∧ ((∀ t ∈ ts, Tok most t)) ∧ (∀ q, q < nx → q ≠ k → sget si q = sget s q) ∧ sget si (nx + 1) = some (.cells [.d (.str []), .nilS]) ∧ sget si (n1 + 3) = some (.cells [.d (.str x.name), xa]) ∧ n1 + 5 ≤ nxi ∧ k ≤ lwi ∧ env.length = 35 ∧ env.getD 23 .undef = .d (.int .i64 i) ∧ env.getD 0 .undef = .ptr k 0 ∧ env.getD 2 .undef = .d (.int .i64 (most : Nat)) ∧ env.getD 6 .undef = .ptr (nx + 1) 0 ∧ env.getD 8 .undef = .ptr (n1 + 3) 0 ∧ env.getD 22 .undef = .d (.int .i64 (ar : Nat)) ∧ st = { s := si, next := nxi, low := lwi }) ?_ (ar) (by refine ⟨0, _, _, _, .nilS, [], rfl, by omega, hS1.frame (by rw [z00 (by omega), z00 (by omega)]) (by omega), Gr.nil, rfl, (fun x hx => by simp at hx), (fun q g1 g2 => by rw [z00 (by omega), z00 (by omega), hf1 q (by omega) g2, z00 (by omega), z00 (by omega)]), ?_, ?_, (by omega), (by first | exact Nat.zero_le _ | omega | exact z01 (by omega) (by omega) | exact z01 (z01 (by omega) (by omega)) (by omega) | exact z01 (z01 (z01 (by omega) (by omega)) (by omega)) (by omega)), ?_, ?_, ?_, ?_, ?_, ?_, ?_, rfl⟩ <;> simp only [w_len, w_0, w_2, w_a1, w_z, LB, simprocAttr])
 rintro m env st ⟨i, nxi, lwi, si, xa, ts, hm, a_0, a_1, a_2, a_3, a_4, a_5, w_ac0, w_ac1, w_ab, w_alo, w_len, w_23, w_0, w_2, w_6, w_8, w_22, rfl⟩
 have w_aN := aI (cf1 (x := nxi) (a := nx + 1) (by omega)) (cf1 (x := nxi) (a := n1 + 3) (by omega))
 have w_aS := aI (cf2 (x := nxi) (by omega) w_ac0) (cf2 (x := nxi) (by omega) w_ac1)
 have w_aZ := zf (x := nxi) (b := n1) (n := 5) (by omega) (by omega)
 have w_a_2V := aI (a_2.away (j := nx + 1) (by omega)) (a_2.away (j := n1 + 3) (by omega))
 have w_a_2c := a_2.cell.1
 have w_a_2d := a_2.cell.2
 have w_a_2e := a_2.beq
 have hib : i * (3 + 4 * most) ≤ 3 * 243 := Nat.mul_le_mul (by omega) (by omega)
 by_cases hi : i < ar
 ·simp only [hi, w_len, w_23, w_0, w_2, w_8, w_22, w_ac1, ↓LA, LB, simprocAttr]
  refine z0s (zxt hb hmo h0 (by omega) (by omega) a_1) fun v2 st2 hR2 => ?_
  obtain ⟨hn2, hf2, hS2, hl2, t, ta, rfl, ht1, ht2⟩ := hR2
  obtain ⟨s2, n2, l2⟩ := st2
  have hn2 : nxi + 10 ≤ n2 := hn2
  have hf2 : ∀ q, q < nxi + 10 → q ≠ k → sget s2 q = sget si q := hf2
  have ht1 : GP s2 false (Iv (nxi + 10) n2) 1 2 true ta (t.nodes.map NodeT.d) := ht1
  have k2 : k ≤ l2 := hl2 k (by omega) (Nat.le_refl _)
  have ha2 : Gr s2 false (n1 + 4) 2 nxi 2 true xa (ts.map TreeT.d) := a_2.frame fun q h1 h2 => hf2 q (by omega) (by omega)
  have w_b0 := (hf2 (nx + 1) (by omega) (by omega)).trans w_ac0
  have w_b1 := (hf2 (n1 + 3) (by omega) (by omega)).trans w_ac1
  have hta := ht1.cell
  have w_ta := hta.1
  have hgl := z47 ha2 (by omega : k ≤ n1 + 4) k2
  simp only [w_len, w_ac1, w_aN, w_a_2e, w_b1, w_ta, ↓LA, LB, simprocAttr]
  refine z5i ha2 ?_ (z0j fun a => z2n) z02 ?_ ?_ ?_ ?_ ?_ fun chc0 hc0 => ?_
  ·intro j h1 h2; simp (disch := omega) only [z00]
  ·rfl
  ·omega
  ·simp; omega
  ·simp; omega
  ·simp only [List.all_cons, List.all_nil, zjy, w_ta, Bool.and_self]
  simp only [z08 hi (by omega), w_len, w_23, w_8, w_aN, w_a_2V, w_b1, ↓LA, LB, simprocAttr]
  have hn3 : (ts ++ [t]).map TreeT.d = ts.map TreeT.d ++ [t.d] := by rw [List.map_append]; rfl
  have hgr : ∀ s', (∀ q, q ≠ n1 + 3 → q ≠ nxi + 7 → q ≠ nxi + 6 → Go.Lift.away xa q → sget s' q = sget s2 q) → sget s' (nxi + 7) = some (.cells (chc0 ++ [ta, .d (.int .i64 t.root)])) → Gr s' false (n1 + 4) 2 (n2 + 2) 2 true (.arr (nxi + 7) 2 true 0 ((ts.map TreeT.d).length + 1)) ((ts ++ [t]).map TreeT.d) := fun s' hs ho => by
   rw [hn3]
   refine z5p hc0 (fun q hq ha => hs q (by have := hq.1; omega) (by have := hq.2; omega) (by have := hq.2; omega) ha) (fun q hq => ⟨hq.1, by have := hq.2; omega⟩) ⟨by omega, by omega⟩ (fun e => by have := e.2; omega) ho rfl ⟨?_, CQ.int, trivial⟩
   have hfr : GP s' false (Iv (nxi + 10) n2) 1 2 true ta (t.nodes.map NodeT.d) := ht1.frame fun q hq => hs q (by have := hq.1; omega) (by have := hq.1; omega) (by have := hq.1; omega) (ha2.away (.inr (by have := hq.1; omega)))
   exact CQ.mono (fun q hq => ⟨⟨by have := hq.1; omega, by have := hq.2; omega⟩, by have := hq.1; omega⟩) (hfr.cv (by omega) (z0j fun a => z9b))
  have hmul : (i + 1) * (3 + 4 * most) = i * (3 + 4 * most) + (3 + 4 * most) := Nat.succ_mul i _
  exact z0c (by refine ⟨_, by omega, i + 1, _, _, _, .arr (nxi + 7) 2 true 0 ((ts.map TreeT.d).length + 1), ts ++ [t], rfl, by omega, hS2.frame (by simp (disch := omega) only [z00, z03, z07 (ha2.away (j := k) (by omega))]) (by omega), hgr _ (fun q g1 g2 g3 g4 => by simp (disch := omega) only [z00, z03, z07 g4]) z02, (by simp [a_3]), (fun u hu => (List.mem_append.1 hu).elim (a_4 u) (fun hu => by rw [List.mem_singleton] at hu; subst hu; exact ht2)), (by intro q g1 g2; simp (disch := omega) only [z00, z03, z07 (ha2.away (j := q) (by omega))]; exact (hf2 q (by omega) g2).trans (a_5 q g1 g2)), ?_, ?_, (by omega), (by first | exact Nat.zero_le _ | omega | exact z01 (by omega) (by omega) | exact z01 (z01 (by omega) (by omega)) (by omega) | exact z01 (z01 (z01 (by omega) (by omega)) (by omega)) (by omega)), ?_, ?_, ?_, ?_, ?_, ?_, ?_, rfl⟩ <;> simp only [w_len, w_0, w_2, w_6, w_8, w_22, w_aN, w_a_2V, w_z, w_b0, w_b1, LB, simprocAttr])
 ·have hie : i = ar := by omega
  simp only [hi, w_len, w_23, w_6, w_8, w_22, w_ac0, w_ac1, w_aS, w_a_2c, ↓LA, LB, simprocAttr]
  refine ⟨by show nx ≤ nxi + 3; omega, fun q g1 g2 => (z03 (by omega)).trans (a_5 q g1 g2), a_1.frame (z03 (by omega)) ?_, fun m g1 g2 => by repeat' (first | omega | refine z01 ?_ ?_), x, ts, xa, hxm, rfl, ?_, by rw [har', ← hie, ← a_3], a_4⟩
  ·have : i * (3 + 4 * most) ≤ 3 * (3 + 4 * most) := Nat.mul_le_mul_right _ (by omega)
   omega
  ·exact GP.mono (fun q hq => ⟨by have := hq.1; omega, by have := hq.2; show q < nxi + 3; omega⟩) (a_2.frame (fun q g1 g2 => z03 (by omega)))
end Go.Lift.K
namespace Go.Lift.K
open Go Go.Lift
set_option maxRecDepth 100000
def relN (i : Nat) : List Nat := [114, 97 + i]
def RelM (i : Nat) (x : RelT) : Prop := x.name = relN i ∧ (1 ≤ x.arity ∧ x.arity ≤ 2) ∧ 0 ≤ x.rank ∧ x.rank ≤ 3
def VarM (v : List Nat) : Prop := ∃ j, j < 4 ∧ v = [118, 97 + j]
def PatM (p : PatT) : Prop := ((p.name = [] ∧ p.vars.length = 1) ∨ (z0z p.name = true ∧ p.vars.length ≤ 2)) ∧ p.name.length ≤ 8 ∧ (∀ c ∈ p.name, c < 256) ∧ ∀ v ∈ p.vars, VarM v
def y0k (rs : List RelT) (head : List PatT) (a : PatT) : Prop := (∃ y ∈ rs, a.name = y.name ∧ (a.vars.length : Int) = y.arity) ∧ ∀ v ∈ a.vars, ∃ p ∈ head, v ∈ p.vars
def zen (rs : List RelT) (c : ClauseT) : Prop := (∃ x ∈ rs, c.rel = x.name ∧ (c.head.length : Int) = x.arity) ∧ (∀ p ∈ c.head, PatM p) ∧ c.body.length ≤ 2 ∧ ∀ a ∈ c.body, y0k rs c.head a
structure RulesM (r : RulesT) : Prop where
 one : 1 ≤ r.rels.length
 most : r.rels.length ≤ 3
 rel : ∀ i (h : i < r.rels.length), RelM i r.rels[i]
 few : r.clauses.length ≤ 8
 cl : ∀ c ∈ r.clauses, zen r.rels c
theorem ziy {i j : Nat} (h : relN i = relN j) : i = j := by
 unfold relN at h
 simp at h
 exact h
theorem zoc {i : Nat} (h : i < 3) : z0z (relN i) = true := by
 have : i = 0 ∨ i = 1 ∨ i = 2 := by omega
 rcases this with rfl | rfl | rfl <;> decide
theorem z9m {v : List Nat} (h : VarM v) : z0z v = true ∧ SOk v := by
 obtain ⟨j, hj, rfl⟩ := h
 have hs : ∀ x ∈ [[118, 97], [118, 98], [118, 99], [118, 100]], z0z x = true ∧ (∀ c ∈ x, c < 256) ∧ x.length ≤ 9223372036854775807 := by decide
 refine hs _ ?_
 have : j = 0 ∨ j = 1 ∨ j = 2 ∨ j = 3 := by omega
 rcases this with rfl | rfl | rfl | rfl <;> simp
theorem za1 {r : RulesT} (h : RulesM r) {x : RelT} (hx : x ∈ r.rels) : r.rels.find? (isR x.name) = some x := by
 obtain ⟨i, hi, rfl⟩ := List.mem_iff_getElem.1 hx
 rw [List.find?_eq_some_iff_getElem]
 refine ⟨by simp [isR], i, hi, rfl, fun j hj => ?_⟩
 have h1 := (h.rel i hi).1
 have h2 := (h.rel j (by omega)).1
 have : ¬ r.rels[j].name = r.rels[i].name := fun e => by
  rw [h1, h2] at e
  have := ziy e
  omega
 simpa [isR] using this
theorem zez {r : RulesT} (h : RulesM r) : z0v r = 0 := by
 have h1 := h.one
 have h3 := h.most
 have h8 := h.few
 unfold z0v
 rw [if_neg (by omega)]
 have hf : z5f (fun i => z1d r i (r.rels.getD i ⟨[], 0, 0⟩)) r.rels.length = 0 := zax fun i hi => by
  have e : r.rels.getD i ⟨[], 0, 0⟩ = r.rels[i] := by simp [hi]
  obtain ⟨e1, e2, e3⟩ := h.rel i hi
  show z1d r i _ = 0
  rw [e]
  have hn : z5g r.rels r.rels[i].name = i := by
   refine z7i hi (fun x hx => ?_) (by simp [isR])
   obtain ⟨j, hj, rfl⟩ := List.mem_iff_getElem.1 hx
   rw [List.length_take] at hj
   rw [List.getElem_take]
   have h2 := (h.rel j (by omega)).1
   have : ¬ r.rels[j].name = r.rels[i].name := fun e => by
    rw [e1, h2] at e
    have := ziy e
    omega
   simpa [isR] using this
  unfold z1d
  rw [hn, e1, zoc (by omega), if_neg (by simp), if_neg (by omega), if_neg (by omega), if_neg (by omega)]
 rw [hf, if_neg (by simp)]
 refine z1a fun c hc => ?_
 obtain ⟨⟨x, hx, e1, e2⟩, e3, e4, e5⟩ := h.cl c hc
 unfold z19
 rw [e1, za1 h hx]
 simp only
 have hfew : c.head.all few = true := List.all_eq_true.2 fun p hp => by
  obtain ⟨q, _⟩ := e3 p hp
  unfold Go.Lift.K.few
  rcases q with ⟨q1, q2⟩ | ⟨q1, q2⟩
  ·simp [q1, q2]
  ·have : ¬ p.name = [] := fun e => by rw [e] at q1; exact absurd q1 (by decide)
   simp [this]; omega
 have hnmd : c.head.all nmd = true := List.all_eq_true.2 fun p hp => by
  obtain ⟨q, _, _, q4⟩ := e3 p hp
  unfold nmd
  have hv : p.vars.all z0z = true := List.all_eq_true.2 fun v hv => (z9m (q4 v hv)).1
  rcases q with ⟨q1, q2⟩ | ⟨q1, q2⟩
  ·simp [q1, hv]
  ·simp [q1, hv]
 rw [if_neg (by rw [hfew]; simp; omega), if_neg (by rw [hnmd]; simp)]
 refine z1a fun a ha => ?_
 obtain ⟨⟨y, hy, f1, f2⟩, f3⟩ := e5 a ha
 unfold z2m
 rw [f1, za1 h hy]
 simp only
 have hth : a.vars.all (z4i c.head) = true := List.all_eq_true.2 fun v hv => by
  obtain ⟨p, hp, hvp⟩ := f3 v hv
  exact List.any_eq_true.2 ⟨p, hp, List.any_eq_true.2 ⟨v, hvp, by simp⟩⟩
 rw [if_neg (by omega), if_neg (by rw [hth]; simp)]
theorem zev {x : List Nat} (h : ∀ c ∈ x, c < 256) (hl : x.length ≤ 8) : SOk x := ⟨h, by omega⟩
theorem zy4 {i : Nat} (hi : i < 3) {x : RelT} (h : RelM i x) : x.ok := by
 obtain ⟨e1, e2, e3⟩ := h
 refine ⟨?_, by unfold IOk; omega, by unfold IOk; omega⟩
 rw [e1]
 refine zev (fun c hc => ?_) (by simp [relN])
 simp [relN] at hc
 omega
theorem zo3 {r : RulesT} (h : RulesM r) : r.ok := by
 have h3 := h.most
 have h8 := h.few
 have hrel : ∀ x ∈ r.rels, x.ok := fun x hx => by
  obtain ⟨i, hi, rfl⟩ := List.mem_iff_getElem.1 hx
  exact zy4 (by omega) (h.rel i hi)
 refine ⟨⟨by unfold LOk; omega, hrel⟩, by unfold LOk; omega, fun c hc => ?_⟩
 obtain ⟨⟨x, hx, e1, e2⟩, e3, e4, e5⟩ := h.cl c hc
 obtain ⟨i, hi, rfl⟩ := List.mem_iff_getElem.1 hx
 have ha := (h.rel i hi).2.1
 refine ⟨by rw [e1]; exact (hrel _ hx).1, ⟨by unfold LOk; omega, fun p hp => ?_⟩, ⟨by unfold LOk; omega, fun a ha' => ?_⟩⟩
 ·obtain ⟨q, q2, q3, q4⟩ := e3 p hp
  refine ⟨zev q3 q2, ?_, fun v hv => (z9m (q4 v hv)).2⟩
  unfold LOk
  rcases q with ⟨_, q⟩ | ⟨_, q⟩ <;> omega
 ·obtain ⟨⟨y, hy, f1, f2⟩, f3⟩ := e5 a ha'
  obtain ⟨j, hj, rfl⟩ := List.mem_iff_getElem.1 hy
  have hb := (h.rel j hj).2.1
  refine ⟨by rw [f1]; exact (hrel _ hy).1, by unfold LOk; omega, fun v hv => ?_⟩
  obtain ⟨p, hp, hvp⟩ := f3 v hv
  exact (z9m ((e3 p hp).2.2.2 v hvp)).2
theorem zw2 {most : Nat} (hm : most ≤ 60) {t : TreeT} (h : Tok most t) : t.ok ∧ Ok t := by
 obtain ⟨h1, h2, h3, h4, h5⟩ := h
 have hk : ∀ x ∈ t.nodes, x.ok := fun x hx => by
  obtain ⟨a, b, c, d⟩ := h3 x hx
  exact ⟨b, by unfold LOk; omega, fun q hq => by have := d q hq; unfold IOk; omega⟩
 refine ⟨⟨⟨by unfold LOk; omega, hk⟩, by unfold IOk; omega⟩, ?_⟩
 refine z6l (z5x.2 ⟨⟨by omega, by omega⟩, fun x hx => by have := (h3 x hx).2.2.1; omega, fun x hx => (h3 x hx).1, ⟨h4, h5⟩, fun x hx q hq => (h3 x hx).2.2.2 q hq⟩)
end Go.Lift.K
namespace Go.Lift.K
open Go Go.Lift
set_option maxRecDepth 100000
theorem zia {a b : Nat} : binV .add (.d (.str [a])) (.d (.str [b])) = some (.d (.str [a, b])) := rfl
def y3j (s0 : List (Nat × Obj)) (nx k : Nat) (bs : List Int) (c lw : Nat) (v : V) (st : St) : Prop :=
 nx ≤ st.next ∧ (∀ q, q < nx → q ≠ k → sget st.s q = sget s0 q) ∧ Sk st.s k bs (c + 1000) ∧ (∀ m, m ≤ lw → m ≤ k → m ≤ st.low) ∧
  ∃ (r : RulesT) (a b : V), v = mkAgg [a, b] ∧ RulesM r ∧ GP st.s false (Iv nx st.next) 0 3 true a (r.rels.map RelT.d) ∧ GP st.s false (Iv nx st.next) 2 3 true b (r.clauses.map ClauseT.d)
def zl6 (bs : List Int) (k : Nat) : Prop := ∀ (e : List V) (s s0 : List (Nat × Obj)) (nx lw lw0 z c : Nat) (xr : V) (rs : List RelT), e.length = 171 → e.getD 0 .undef = .ptr k 0 → e.getD 6 .undef = .ptr z 0 → e.getD 7 .undef = .ptr (z + 1) 0 →
 sget s z = some (.cells [.nilS, .nilS]) → sget s (z + 1) = some (.cells [xr, .nilS]) → k < z → z + 2 ≤ nx → Gr s false (z + 2) 0 nx 3 true xr (rs.map RelT.d) → 1 ≤ rs.length → rs.length ≤ 3 → (∀ j (h : j < rs.length), RelM j rs[j]) → Sk s k bs (c + 7) → c ≤ 100000 → k ≤ lw → (∀ q, q < z → q ≠ k → sget s q = sget s0 q) →
 PC (z0i (z06 G) z0h none T1.q4_41 e { s := s, next := nx, low := lw }) (RS [.cell 6 2 true] (y3j s0 z k bs c lw0) .mk lw0) .mk
set_option maxHeartbeats 1000000 in
theorem zyv {bs : List Int} (hb : LOk bs) {k c : Nat} (hrest : zl6 bs k) (hc : c ≤ 100000) {s : List (Nat × Obj)} {nx lw : Nat} (hk : k < nx) (h : Sk s k bs c) :
  PostV (z06 G (.fn 4 [] []) [.ptr k 0, .d (.int .i64 3), .d (.int .i64 4)] { s := s, next := nx, low := lw }) (y3j s nx k bs c lw) := by
 obtain ⟨R, hR⟩ : ∃ R : IC, R = T1.q4_41 := ⟨_, rfl⟩
 refine z1k (first := []) (args := [.ptr k 0, .d (.int .i64 3), .d (.int .i64 4)]) (cap := []) T1.g4 rfl rfl rfl (fun e w_len harg => ?_)
 have w_len : e.length = 171 := w_len
 have w_0 : e.getD 0 .undef = .ptr k 0 := harg 0 (by simp)
 have w_1 : e.getD 1 .undef = .d (.int .i64 3) := harg 1 (by simp)
 have w_2 : e.getD 2 .undef = .d (.int .i64 4) := harg 2 (by simp)
 clear harg
 unfold T1.i4
 rw [← hR]
 simp only [w_len, w_0, w_1, ↓LA, LB, simprocAttr]
 refine z0s (z67 (lo := 1) (hi := 3) hb (by omega) (by omega) (by omega) (by omega) (h.frame (by rw [z00 (by omega), z00 (by omega)]) (Nat.le_refl _))) fun v1 st1 hR1 => ?_
 obtain ⟨⟨n, hna, hnb, rfl⟩, hn1, hf1, hS1, hl1⟩ := hR1
 obtain ⟨s1, n1, l1⟩ := st1
 have hn1 : nx + 6 ≤ n1 := hn1
 have hf1 : ∀ q, q < nx + 6 → q ≠ k → sget s1 q = sget ((nx + 1, Obj.cells [V.nilS, V.nilS]) :: (nx, Obj.cells [V.nilS, V.nilS]) :: s) q := hf1
 have k1 : k ≤ l1 := hl1 k (by repeat' (first | omega | refine z01 ?_ ?_)) (Nat.le_refl _)
 have w_a0 : sget s1 nx = some (.cells [.nilS, .nilS]) := (hf1 _ (by omega) (by omega)).trans ((z00 (by omega)).trans z02)
 have w_a1 : sget s1 (nx + 1) = some (.cells [.nilS, .nilS]) := (hf1 _ (by omega) (by omega)).trans z02
 simp only [↓LA, LB, simprocAttr]
 refine z0e (fun e0 s0 m env st => ∃ (i nxi lwi : Nat) (si : List (Nat × Obj)) (xr : V) (rs : List RelT), m = n - i ∧ (i ≤ n) ∧ (Sk si k bs (c + 1 + 2 * i)) ∧ (Gr si false (nx + 2) 0 nxi 3 true xr (rs.map RelT.d)) ∧ (rs.length = i) ∧ ((∀ j (h : j < rs.length), RelM j rs[j])) ∧ (∀ q, q < nx → q ≠ k → sget si q = sget s q) ∧ sget si (nx) = some (.cells [.nilS, .nilS]) ∧ sget si (nx + 1) = some (.cells [xr, .nilS]) ∧ nx + 6 ≤ nxi ∧ k ≤ lwi ∧ env.length = 171 ∧ env.getD 21 .undef = .d (.int .i64 i) ∧ env.getD 0 .undef = .ptr k 0 ∧ env.getD 2 .undef = .d (.int .i64 4) ∧ env.getD 6 .undef = .ptr nx 0 ∧ env.getD 7 .undef = .ptr (nx + 1) 0 ∧ env.getD 20 .undef = .d (.int .i64 (n : Nat)) ∧ st = { s := si, next := nxi, low := lwi }) ?_ (n) (by refine ⟨0, _, _, _, .nilS, [], rfl, by omega, hS1, Gr.nil, rfl, (fun j h => by simp at h), (fun q g1 g2 => by rw [hf1 q (by omega) g2, z00 (by omega), z00 (by omega)]), ?_, ?_, (by omega), (by first | exact Nat.zero_le _ | omega | exact z01 (by omega) (by omega) | exact z01 (z01 (by omega) (by omega)) (by omega) | exact z01 (z01 (z01 (by omega) (by omega)) (by omega)) (by omega)), ?_, ?_, ?_, ?_, ?_, ?_, ?_, rfl⟩ <;> simp only [w_len, w_0, w_2, w_a0, w_a1, LB, simprocAttr])
 rintro m env st ⟨i, nxi, lwi, si, xr, rs, hm, a_0, a_1, a_2, a_3, a_4, a_5, w_ac0, w_ac1, w_ab, w_alo, w_len, w_21, w_0, w_2, w_6, w_7, w_20, rfl⟩
 have w_aN := aI (cf1 (x := nxi) (a := nx) (by omega)) (cf1 (x := nxi) (a := nx + 1) (by omega))
 have w_aS := aI (cf2 (x := nxi) (by omega) w_ac0) (cf2 (x := nxi) (by omega) w_ac1)
 have w_aZ := zf (x := nxi) (b := nx) (n := 6) (by omega) (by omega)
 have w_a_2V := aI (a_2.away (j := nx) (by omega)) (a_2.away (j := nx + 1) (by omega))
 have w_a_2c := a_2.cell.1
 have w_a_2d := a_2.cell.2
 have w_a_2e := a_2.beq
 by_cases hi : i < n
 ·have hw1 : IntKind.i64.wrap (97 + (i : Int)) = ((97 + i : Nat) : Int) := by rw [z3f (by omega) (by omega)]; omega
  have hw2 : IntKind.i32.wrap ((97 + i : Nat) : Int) = ((97 + i : Nat) : Int) := zeq (by omega) (by omega)
  have hcv := fun (st : St) => zcg (k := .i32) (n := 97 + i) (st := st) (by omega)
  simp only [hi, hw1, hw2, hcv, zia, w_len, w_21, w_0, w_2, w_7, w_20, w_ac1, ↓LA, LB, simprocAttr]
  refine z0s (z67 (lo := 1) (hi := 2) hb (by omega) (by omega) (by omega) (by omega) a_1) fun v2 st2 hR2 => ?_
  obtain ⟨⟨ar, har1, har2, rfl⟩, hn2, hf2, hS2, hl2⟩ := hR2
  obtain ⟨s2, n2, l2⟩ := st2
  have hn2 : nxi + 20 ≤ n2 := hn2
  have hf2 : ∀ q, q < nxi + 20 → q ≠ k → sget s2 q = sget si q := hf2
  have k2 : k ≤ l2 := hl2 k (by omega) (Nat.le_refl _)
  have w_b0 := (hf2 nx (by omega) (by omega)).trans w_ac0
  have w_b1 := (hf2 (nx + 1) (by omega) (by omega)).trans w_ac1
  simp only [w_len, w_ac1, w_a_2e, w_b1, ↓LA, LB, simprocAttr]
  refine z0s (z2h (n := 4) hb (by omega) (by omega) (by omega) (by omega) hS2) fun v3 st3 hR3 => ?_
  obtain ⟨⟨rk, hrk, rfl⟩, hn3, hf3, hS3, hl3⟩ := hR3
  obtain ⟨s3, n3, l3⟩ := st3
  have hn3 : n2 ≤ n3 := hn3
  have hf3 : ∀ q, q < n2 → q ≠ k → sget s3 q = sget s2 q := hf3
  have k3 : k ≤ l3 := hl3 k k2 (Nat.le_refl _)
  have hf23 : ∀ q, q < nxi → q ≠ k → sget s3 q = sget si q := fun q g1 g2 => (hf3 q (by omega) g2).trans (hf2 q (by omega) g2)
  have ha3 : Gr s3 false (nx + 2) 0 nxi 3 true xr (rs.map RelT.d) := a_2.frame fun q h1 h2 => hf23 q (by omega) (by omega)
  have w_c0 := (hf3 nx (by omega) (by omega)).trans w_b0
  have w_c1 := (hf3 (nx + 1) (by omega) (by omega)).trans w_b1
  have hgl := z47 ha3 (by omega : k ≤ nx + 2) k3
  simp only [w_len, w_aN, w_a_2e, w_b1, w_c1, ↓LA, LB, simprocAttr]
  refine z5i ha3 ?_ (z0j fun a => zhw) z02 ?_ ?_ ?_ ?_ ?_ fun chc0 hc0 => ?_
  ·intro j h1 h2; simp (disch := omega) only [z00]
  ·rfl
  ·omega
  ·simp; omega
  ·simp; omega
  ·exact rfl
  simp only [z08 hi (by omega), w_len, w_21, w_7, w_aN, w_a_2V, w_c1, ↓LA, LB, simprocAttr]
  have hn4 : (rs ++ [(⟨relN i, ar, rk⟩ : RelT)]).map RelT.d = rs.map RelT.d ++ [.agg [.str [114, 97 + i], .int .i64 (ar : Nat), .int .i64 (rk : Nat)]] := by rw [List.map_append]; rfl
  have hrm : ∀ j (h : j < (rs ++ [(⟨relN i, ar, rk⟩ : RelT)]).length), RelM j (rs ++ [(⟨relN i, ar, rk⟩ : RelT)])[j] := fun j hj => by
   by_cases e : j < rs.length
   ·rw [List.getElem_append_left e]; exact a_4 j e
   ·have hj' : j = i := by rw [List.length_append, List.length_singleton] at hj; omega
    subst hj'
    rw [List.getElem_append_right (by omega)]
    simp only [a_3, Nat.sub_self, List.getElem_cons_zero]
    exact ⟨rfl, ⟨by show (1 : Int) ≤ (ar : Nat); omega, by show ((ar : Nat) : Int) ≤ 2; omega⟩, by show (0 : Int) ≤ (rk : Nat); omega, by show ((rk : Nat) : Int) ≤ 3; omega⟩
  exact z0c (by refine ⟨_, by omega, i + 1, _, _, _, .arr (nxi + 17) 3 true 0 ((rs.map RelT.d).length + 1), rs ++ [⟨relN i, ar, rk⟩], rfl, by omega, hS3.frame (by simp (disch := omega) only [z00, z03, z07 (ha3.away (j := k) (by omega))]) (by omega), (by rw [hn4]; exact z5o hc0 (by intro j h1 h2 h3; simp (disch := omega) only [z00, z03, z07 h3]) (by omega) (by omega) (by omega) z02 rfl ⟨CV.str, CV.int, CV.int, trivial⟩), (by simp [a_3]), hrm, (by intro q g1 g2; simp (disch := omega) only [z00, z03, z07 (ha3.away (j := q) (by omega))]; exact (hf23 q (by omega) g2).trans (a_5 q g1 g2)), ?_, ?_, (by omega), (by first | exact Nat.zero_le _ | omega | exact z01 (by omega) (by omega) | exact z01 (z01 (by omega) (by omega)) (by omega) | exact z01 (z01 (z01 (by omega) (by omega)) (by omega)) (by omega)), ?_, ?_, ?_, ?_, ?_, ?_, ?_, rfl⟩ <;> simp only [w_len, w_0, w_2, w_6, w_7, w_20, w_aN, w_a_2V, w_c0, w_c1, LB, simprocAttr])
 have hie : i = n := by omega
 simp only [hi, w_len, w_21, w_20, ↓LA, LB, simprocAttr]
 rw [hR]
 refine hrest _ _ _ _ _ _ _ _ xr rs (by simp only [w_len, LB, simprocAttr]) (by simp only [w_0, LB, simprocAttr]) (by simp only [w_6, LB, simprocAttr]) (by simp only [w_7, LB, simprocAttr]) w_ac0 w_ac1 hk (by omega) (a_2.hi (by omega)) (by omega) (by omega) a_4 (a_1.frame rfl (by omega)) hc w_alo a_5
end Go.Lift.K
